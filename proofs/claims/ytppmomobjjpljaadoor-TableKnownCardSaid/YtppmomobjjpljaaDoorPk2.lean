/- Own texts of the claims of this seat, one behind the other: KE9, KE10, KE11, KE11a, KE12, KE13, KE14, KD1, KD2, KD3, KD4, KD5, KD6, KD7, KD8: what a call comes to, and contracts of functions. -/
import Derived.Test.YtppmomobjjpljaaDoorPk1
import Derived.Lib.SliceRun
import Derived.Scope
/- Part KE9. -/
section
/- A calculus for Go functions over an abstract memory (part 9): values and rows that are built. Conditions: those of each theorem. -/
namespace Go.Proofs.YtppmomobjjpljaaDoor.E
open Go Go.RowKit
set_option linter.unusedVariables false
set_option linter.unusedSimpArgs false
variable {P : Program} {E : Env} {φ : Nat → Nat} {w : World} {C : Ctx} {s : St} {a : Act} {o : Oper} {K : St → Prop}

theorem fold_get (off : Nat) : ∀ (vs : List Value) (k : Nat) (cs : Array Value), off + k + vs.length ≤ cs.size →
    ((vs.zipIdx k).foldl (fun cs (x : Value × Nat) => cs.setIfInBounds (off + x.2) x.1) cs).size = cs.size ∧
    ∀ q, ((vs.zipIdx k).foldl (fun cs (x : Value × Nat) => cs.setIfInBounds (off + x.2) x.1) cs).getD q undef = if off + k ≤ q ∧ q < off + k + vs.length then vs.getD (q - (off + k)) undef else cs.getD q undef
  | [], k, cs, h => ⟨rfl, fun q => by rw [if_neg (by first | (simp; done) | (simp; omega))]; rfl⟩
  | v :: vs, k, cs, h => by
    simp only [List.zipIdx_cons, List.foldl_cons]
    obtain ⟨h1, h2⟩ := fold_get off vs (k + 1) (cs.setIfInBounds (off + k) v) (by simp at h ⊢; omega)
    refine ⟨by rw [h1]; simp, fun q => ?_⟩
    rw [h2 q]
    simp only [List.length_cons] at h ⊢
    by_cases hq : q = off + k
    · subst hq
      rw [if_neg (by omega), if_pos (by omega)]
      simp [Array.getD, show off + k < cs.size by omega]
    · by_cases hc : off + (k + 1) ≤ q ∧ q < off + (k + 1) + vs.length
      · rw [if_pos hc, if_pos (by omega), show q - (off + k) = q - (off + (k + 1)) + 1 by omega]
        simp
      · rw [if_neg hc, if_neg (by omega)]
        simp only [Array.getD_eq_getD_getElem?]
        rw [Array.getElem?_setIfInBounds_ne (fun e => hq e.symm)]
theorem fold_cells (off : Nat) (v : Value) (cs : Array Value) (h : off + v.cells.size ≤ cs.size) :
    (v.cells.zipIdx.foldl (fun cs (c, j) => cs.setIfInBounds (off + j) c) cs).size = cs.size ∧
    ∀ q, (v.cells.zipIdx.foldl (fun cs (c, j) => cs.setIfInBounds (off + j) c) cs).getD q undef = if off ≤ q ∧ q < off + v.cells.size then v.cells.getD (q - off) undef else cs.getD q undef := by
  have := fold_get off v.cells.toList 0 cs (by simpa using h)
  rw [← Array.foldl_toList, Array.toList_zipIdx]
  refine ⟨this.1, fun q => ?_⟩
  have h2 := this.2 q
  simp only [Nat.add_zero, Array.length_toList] at h2
  rw [h2]
  split
  · rw [List.getD_eq_getElem?_getD, Array.getD_eq_getD_getElem?, Array.getElem?_toList]
  · rfl

/-- Cells told one by one. -/
def Tells (φ : Nat → Nat) (M : Nat → Prop) (w : World) (n : Nat) (ds : List D) (cs : Array Value) : Prop :=
  cs.size = ds.length ∧ ∀ i d, ds[i]? = some d → Rd φ M w n d (cs.getD i undef)
theorem fill_rd {M : Nat → Prop} {n : Nat} {place pl' : Nat → Option (Nat × Nat)} (hp : ∀ i x, place i = some x → pl' i = some x) : ∀ {ps : List (Nat × D)} {vs : List (Nat × Value)} {ds rs : List D} {cs : Array Value}, fillE place ds ps = some rs →
    vs.length = ps.length → (∀ (k i : Nat) (d : D), ps[k]? = some (i, d) → ∃ v, vs[k]? = some (i, v) ∧ Rd φ M w n d v) → Tells φ M w n ds cs →
    ∃ cs', Instr.fill pl' cs vs = some cs' ∧ Tells φ M w n rs cs'
  | [], vs, ds, rs, cs, h, hn, hv, ht => by
    have : vs = [] := List.eq_nil_of_length_eq_zero hn
    subst this
    simp only [fillE] at h
    cases h
    exact ⟨cs, rfl, ht⟩
  | (i, d) :: ps, vs, ds, rs, cs, h, hn, hv, ht => by
    obtain ⟨v, hv0, hvr⟩ := hv 0 i d rfl
    cases vs with
    | nil => simp at hn
    | cons x vs =>
      simp at hv0
      subst hv0
      simp only [fillE] at h
      split at h
      · rename_i off m hpl
        split at h
        · rename_i hc
          obtain ⟨hm, hoff, hd1⟩ := hc
          obtain ⟨h3, h4⟩ := cells_rd hvr hd1
          have hsz : off + v.cells.size ≤ cs.size := by rw [h3, ht.1]; omega
          obtain ⟨h5, h6⟩ := fold_cells off v cs hsz
          have ht' : Tells φ M w n (patch ds off d.cells) (v.cells.zipIdx.foldl (fun cs (c, j) => cs.setIfInBounds (off + j) c) cs) := by
            refine ⟨by rw [h5, ht.1, patch_len], fun q e he => ?_⟩
            rw [patch_get _ _ _ _ (by omega)] at he
            rw [h6 q, h3]
            by_cases hq : off ≤ q ∧ q < off + d.cells.length
            · rw [if_pos hq] at he ⊢
              exact (h4 _ e he).1
            · rw [if_neg hq] at he ⊢
              exact ht.2 q e he
          obtain ⟨cs', h7, h8⟩ := fill_rd hp (vs := vs) h (by simpa using hn) (fun k i d hk => by simpa using hv (k + 1) i d (by simpa using hk)) ht'
          refine ⟨cs', ?_, h8⟩
          simp only [Instr.fill, hp _ _ hpl]
          rw [if_neg, h7]
          simp only [h3, hm, bne_self_eq_false, ne_eq, not_true_eq_false, decide_false, Bool.false_or, decide_eq_true_eq]
          rw [ht.1]
          omega
        · cases h
      · cases h
theorem partsE_rd (hR : Rel C φ s a w) (hG : C.G = E.G) : ∀ {l : List (Nat × Operand)} {ps : List (Nat × D)}, partsE E.G s l = some ps →
    (l.map fun x => (x.1, a.eval x.2)).length = ps.length ∧ ∀ (k i : Nat) (d : D), ps[k]? = some (i, d) → ∃ v, (l.map fun x => (x.1, a.eval x.2))[k]? = some (i, v) ∧ Rd φ (Mut C.M φ s.hp) w s.nx d v
  | [], ps, h => by cases h; exact ⟨rfl, fun k i d hd => by simp at hd⟩
  | (i, x) :: l, ps, h => by
    simp only [partsE] at h
    split at h
    · rename_i d r h1 h2
      cases h
      obtain ⟨h3, h4⟩ := partsE_rd hR hG h2
      refine ⟨by simpa using h3, fun k j e he => ?_⟩
      cases k with
      | zero => simp at he; obtain ⟨rfl, rfl⟩ := he; exact ⟨_, rfl, opnd_rd hR hG h1⟩
      | succ k => simpa using h4 k j e (by simpa using he)
    · cases h
theorem partsK_inv {l : List (Nat × Operand)} {K : List (Nat × D) → Prop} (h : partsK E s l K) : ∃ ps, partsE E.G s l = some ps ∧ K ps := by
  unfold partsK at h
  split at h
  · exact ⟨_, by assumption, h⟩
  · exact h.elim

theorem run_zeroP {T : TypeId} {i : TypeInfo} {v : Value} (h : P.info? T = some i) (hz : i.zero = some v) (w : World) : (zeroValue T).run P w = .ok v w := by
  simp [zeroValue, typeInfo, h, hz]
theorem run_places {fs : Array Field} (h : fs.all (fun f => (P.info? f.type).isSome) = true) (w : World) : ∃ ps : Array (Nat × Nat), (fs.mapM fun (f : Field) => do pure (f.offset, ← sizeOf f.type)).run P w = .ok ps w ∧
    ∀ (i : Nat) (f : Field) (ti : TypeInfo), fs[i]? = some f → P.info? f.type = some ti → ps[i]? = some (f.offset, ti.size) := by
  have key : ∀ l : List Field, (∀ f ∈ l, (P.info? f.type).isSome = true) → ∃ ps : List (Nat × Nat), (l.mapM fun (f : Field) => do pure (f.offset, ← sizeOf f.type) : Sem (List (Nat × Nat))).run P w = .ok ps w ∧
      ∀ (i : Nat) (f : Field) (ti : TypeInfo), l[i]? = some f → P.info? f.type = some ti → ps[i]? = some (f.offset, ti.size) := by
    intro l
    induction l with
    | nil => intro _; exact ⟨[], by simp, fun i f ti h => by simp at h⟩
    | cons f l ih =>
      intro hl
      obtain ⟨ps, h1, h2⟩ := ih fun g hg => hl g (List.mem_cons_of_mem _ hg)
      obtain ⟨ti, hti⟩ := Option.isSome_iff_exists.1 (hl f List.mem_cons_self)
      refine ⟨(f.offset, ti.size) :: ps, by simp [run_sizeP hti] at h1 ⊢; simp [h1], fun i g tj hg hj => ?_⟩
      cases i with
      | zero => simp at hg; subst hg; rw [hti] at hj; cases hj; rfl
      | succ i => simpa using h2 i g tj (by simpa using hg) hj
  obtain ⟨ps, h1, h2⟩ := key fs.toList fun f hf => by
    rw [Array.all_eq_true] at h
    obtain ⟨i, hi, rfl⟩ := List.getElem_of_mem hf
    simpa using h i (by simpa using hi)
  refine ⟨ps.toArray, ?_, fun i f ti hf hti => by simpa using h2 i f ti (by simpa using hf) hti⟩
  rw [Array.mapM_eq_mapM_toList, Sem.run_map, h1]
  rfl
theorem tells_of {M : Nat → Prop} {n : Nat} {d : D} {v : Value} (h : Rd φ M w n d v) (h1 : oneL d.cells = true) : Tells φ M w n d.cells v.cells :=
  let ⟨h2, h3⟩ := cells_rd h h1
  ⟨h2, fun i e he => (h3 i e he).1⟩
theorem buildE_rd (hE : EnvOk P E) (hR : Rel C φ s a w) (hG : C.G = E.G) {T : TypeId} {l : List (Nat × Operand)} {ps : List (Nat × D)} {K : D → Prop} (hps : partsE E.G s l = some ps) (h : buildE E T ps K) :
    Gives P C φ s w (Instr.build T (l.map fun x => (x.1, a.eval x.2)).toArray) K := by
  obtain ⟨p1, p2⟩ := partsE_rd hR hG hps
  unfold buildE at h
  split at h
  · rename_i z hk hz
    obtain ⟨fs, hu, hall⟩ := kd_struct (hE.kd hk)
    obtain ⟨ti, v, h1, h2, h3, h4, h5⟩ := zero_rd (hE.zero hz)
    obtain ⟨pl, h6, h7⟩ := run_places hall w
    split at h
    · rename_i cs hf
      obtain ⟨cs', h8, h9⟩ := fill_rd (pl' := fun i => pl[i]?) (fun i x hx => by
        split at hx
        · rename_i off g m hfl
          cases hx
          obtain ⟨fs', f, k1, k2, k3, k4, k5⟩ := fld_spec (hE.fld hfl)
          rw [hu] at k1
          cases k1
          obtain ⟨_, tj, _, q1, q2, _⟩ := szP_spec k4
          have := h7 i f tj k2 q1
          rw [this, k3, q2]
        · cases hx) hf p1 p2 (tells_of (h5 φ (Mut C.M φ s.hp) w s.nx) h3)
      refine ⟨.agg cs', .agg cs, ?_, .agg h9.1 h9.2, h⟩
      simp only [Instr.build, Sem.run_bind, run_zeroP h1 h2, Result.andThen_ok, run_underlying hu, h6]
      simp [h8]
    · exact h.elim
  · rename_i len g m z hk hz
    obtain ⟨e, hu, hs, hm⟩ := kd_array (hE.kd hk)
    obtain ⟨_, tj, _, q1, q2, _⟩ := szP_spec hs
    obtain ⟨ti, v, h1, h2, h3, h4, h5⟩ := zero_rd (hE.zero hz)
    split at h
    · rename_i cs hf
      obtain ⟨cs', h8, h9⟩ := fill_rd (pl' := fun i => some (i * m, m)) (fun i x hx => by
        split at hx
        · exact hx
        · cases hx) hf p1 p2 (tells_of (h5 φ (Mut C.M φ s.hp) w s.nx) h3)
      refine ⟨.agg cs', .agg cs, ?_, .agg h9.1 h9.2, h⟩
      simp only [Instr.build, Sem.run_bind, run_zeroP h1 h2, Result.andThen_ok, run_underlying hu, run_sizeP q1, q2]
      simp [h8]
    · exact h.elim
  · exact h.elim

/-! ### Rows -/
theorem madeCells_get (z : Array Value) (n q : Nat) (h : q < n) : (madeCells z n).getD q undef = z[q % z.size]! := by
  simp [madeCells, Array.getD, h]
theorem mod_at {z i j : Nat} (hj : j < z) : (i * z + j) % z = j := by rw [Nat.mul_add_mod_self_right, Nat.mod_eq_of_lt hj]
/-- A row of zeros, and elements set in it. -/
structure RowOf (φ : Nat → Nat) (M : Nat → Prop) (w : World) (n z : Nat) (els : List D) (cs : Array Value) : Prop where
  size : els.length * z ≤ cs.size
  zs : ∀ e, e ∈ els → e.cells.length = z
  one : ∀ v, v ∈ cs → v.oneCell' = true
  rd : ∀ i e j d, els[i]? = some e → e.cells[j]? = some d → Rd φ M w n d (cs.getD (i * z + j) undef)
theorem row_zero {M : Nat → Prop} {n z k c : Nat} {d : D} {v : Value} (hd : Rd φ M w n d v) (h1 : oneL d.cells = true) (hz : d.cells.length = z) (hk : k ≤ c) : RowOf φ M w n z (List.replicate k d) (madeCells v.cells (c * z)) := by
  obtain ⟨h2, h3⟩ := cells_rd hd h1
  refine ⟨by rw [size_madeCells]; simp; exact Nat.mul_le_mul_right _ hk, fun e he => by rw [(List.mem_replicate.1 he).2]; exact hz, fun u hu => ?_, fun i e j x he hx => ?_⟩
  · simp only [madeCells, Array.mem_map] at hu
    obtain ⟨q, hq, rfl⟩ := hu
    have hpos : 0 < v.cells.size := by
      rw [h2, hz]
      rcases Nat.eq_zero_or_pos z with h0 | h0
      · subst h0; simp at hq
      · exact h0
    have hlt := Nat.mod_lt q hpos
    have := (h3 (q % v.cells.size) _ (List.getElem?_eq_getElem (by omega))).2
    rw [Array.getD, dif_pos hlt] at this
    simpa [hlt] using this
  · rw [List.getElem?_replicate] at he
    split at he
    · rename_i hi
      cases he
      have hj : j < z := by rw [← hz]; exact (List.getElem?_eq_some_iff.1 hx).1
      rw [madeCells_get _ _ _ (mul_lt (by omega) hj), h2, hz, mod_at hj]
      have := (h3 j x hx).1
      have hjs : j < v.cells.size := by omega
      rw [Array.getD, dif_pos hjs] at this
      simpa [hjs] using this
    · cases he
theorem good_row (hR : Rel C φ s a w) {z n c : Nat} {T : TypeId} {els : List D} {cs : Array Value} {b : Bool} (hrow : RowOf φ (Mut C.M φ s.hp) w (if b then 0 else s.nx) z els cs) (hn : n ≤ c) (hc : c ≤ maxLen) (hcs : c * z = cs.size)
    (hrun : (execOp a.eval o).run P w = .ok (.value (.slice (some ⟨w.heap.size, 0, none⟩) n c)) (w.alloc (.cells cs T))) (hk : K ((s.new ⟨z, T, els, b, false⟩).set o.dst (.sl s.nx z 0 n))) : Good P C o a w K := by
  have h2 := hR.alloc ⟨z, T, els, b, false⟩ cs hrow.size hrow.zs hrow.one hrow.rd
  refine good_val hrun (h2.put o.dst ?_) hk
  have : Rd (upd φ s.nx w.heap.size) (Mut C.M (upd φ s.nx w.heap.size) (s.new ⟨z, T, els, b, false⟩).hp) (w.alloc (.cells cs T)) (s.nx + 1) (.sl s.nx z 0 n) (.slice (some ⟨upd φ s.nx w.heap.size s.nx, 0 * z, none⟩) n c) :=
    .sl (Nat.lt_succ_self _) (by rw [upd_new]; exact heap_alloc_new w _) (by rw [Nat.zero_add]; exact hcs) hn hc
  rw [upd_new, Nat.zero_mul] at this
  exact this
theorem good_make (hE : EnvOk P E) (hR : Rel C φ s a w) {T : TypeId} {n c : D} {vn vc : Value} (h : makeE E T s o.dst n c K) (hn : Rd φ (Mut C.M φ s.hp) w s.nx n vn) (hc : Rd φ (Mut C.M φ s.hp) w s.nx c vc)
    (hrun : (execOp a.eval o).run P w = ((Instr.makeSlice T vn vc).run P w).andThen fun v w' => .ok (.value v) w') : Good P C o a w K := by
  unfold makeE at h
  split at h
  · rename_i e z by_ d k1 n k2 c hk
    obtain ⟨hu, ti, v, h1, h2, h3, h4, h5, h6, h7, h8, h9, h10⟩ := kd_slice (hE.kd hk)
    rw [hE.F] at h
    obtain ⟨hb, h⟩ := h
    simp only [fns] at hb
    obtain ⟨b1, b2, b3, b4⟩ := hb
    cases hn; cases hc
    have hr := run_make (P := P) w T e ti v hu h1 h2 k1 k2 n c b1 b2 (by rw [h4]; omega) b3
    rw [h3] at hr
    rw [hr] at hrun
    have hb0 : (if d.free = true then 0 else s.nx) = 0 := by rw [h9]; rfl
    refine good_row hR (b := d.free) (els := List.replicate n.toNat d) (z := z) (T := e) (c := c.toNat) (n := n.toNat) ?_ (by omega) (by unfold maxLen; omega) (by rw [size_madeCells]) hrun (by simpa [fns] using h)
    rw [hb0]
    exact row_zero (h10 _ _ _ _) h8 h7 (by omega)
  · exact h.elim
theorem getD_at {r : Array Value} {q : Nat} (hq : q < r.size) : r[q] = r.getD q undef := by rw [Array.getD, dif_pos hq]; rfl
theorem sets_rd {M : Nat → Prop} {n z : Nat} : ∀ {ps : List (Nat × D)} {vs : List (Nat × Value)} {els rs : List D} {cs : Array Value}, setsE z els ps = some rs → vs.length = ps.length →
    (∀ (k i : Nat) (d : D), ps[k]? = some (i, d) → ∃ v, vs[k]? = some (i, v) ∧ Rd φ M w n d v) → cs.size = els.length * z → RowOf φ M w n z els cs →
    ∃ cs', Instr.fill (fun i => some (i * z, z)) cs vs = some cs' ∧ rs.length = els.length ∧ cs'.size = cs.size ∧ RowOf φ M w n z rs cs'
  | [], vs, els, rs, cs, h, hn, hv, hsz, hr => by
    have : vs = [] := List.eq_nil_of_length_eq_zero hn
    subst this
    simp only [setsE] at h
    cases h
    exact ⟨cs, rfl, rfl, rfl, hr⟩
  | (i, d) :: ps, vs, els, rs, cs, h, hn, hv, hsz, hr => by
    obtain ⟨v, hv0, hvr⟩ := hv 0 i d rfl
    cases vs with
    | nil => simp at hn
    | cons x vs =>
      simp at hv0
      subst hv0
      simp only [setsE] at h
      split at h
      · rename_i hc
        obtain ⟨hi, hdz, h1⟩ := hc
        obtain ⟨h3, h4⟩ := cells_rd hvr h1
        have hfit : i * z + v.cells.size ≤ cs.size := by
          rw [h3, hdz, hsz]
          have := Nat.mul_le_mul_right z (show i + 1 ≤ els.length from hi)
          rw [Nat.add_mul] at this
          omega
        obtain ⟨h5, h6⟩ := fold_cells (i * z) v cs hfit
        have hone : ∀ u, u ∈ v.cells → u.oneCell' = true := fun u hu => by
          obtain ⟨q, hq, rfl⟩ := Array.getElem_of_mem hu
          have := (h4 q _ (List.getElem?_eq_getElem (by omega))).2
          rw [Array.getD, dif_pos hq] at this
          simpa using this
        have hr' : RowOf φ M w n z (els.set i d) (v.cells.zipIdx.foldl (fun cs (c, j) => cs.setIfInBounds (i * z + j) c) cs) := by
          refine ⟨by rw [h5, List.length_set]; exact hr.size, fun e he => ?_, fun u hu => ?_, fun q e j x he hx => ?_⟩
          · rcases List.mem_or_eq_of_mem_set he with he | rfl
            · exact hr.zs e he
            · exact hdz
          · obtain ⟨q, hq, rfl⟩ := Array.getElem_of_mem hu
            rw [getD_at hq, h6 q]
            split
            · rename_i hc
              have hlt : q - i * z < v.cells.size := by omega
              rw [Array.getD, dif_pos hlt]
              exact hone _ (Array.getElem_mem hlt)
            · rw [h5] at hq
              rw [Array.getD, dif_pos hq]
              exact hr.one _ (Array.getElem_mem hq)
          · have hj : j < z := by
              have he' := List.mem_of_getElem? he
              rcases List.mem_or_eq_of_mem_set he' with he' | rfl
              · rw [← hr.zs e he']; exact (List.getElem?_eq_some_iff.1 hx).1
              · rw [← hdz]; exact (List.getElem?_eq_some_iff.1 hx).1
            rw [h6, h3, hdz]
            by_cases hqi : q = i
            · subst hqi
              rw [List.getElem?_set_self hi] at he
              cases he
              rw [if_pos (by omega), show q * z + j - q * z = j by omega]
              exact (h4 j x hx).1
            · rw [List.getElem?_set_ne (fun e => hqi e.symm)] at he
              rw [if_neg]
              · exact hr.rd q e j x he hx
              · intro hc
                have := mul_apart (z := z) (j := q * z + j - i * z) (j' := j) (fun e => hqi e.symm) (by omega) hj
                omega
        obtain ⟨cs', k1, k2, k3, k4⟩ := sets_rd (vs := vs) h (by simpa using hn) (fun k i d hk => by simpa using hv (k + 1) i d (by simpa using hk)) (by rw [h5, List.length_set]; exact hsz) hr'
        refine ⟨cs', ?_, by rw [k2, List.length_set], by rw [k3, h5], k4⟩
        simp only [Instr.fill]
        rw [if_neg, k1]
        simp only [h3, hdz, bne_self_eq_false, ne_eq, not_true_eq_false, decide_false, Bool.false_or, decide_eq_true_eq]
        omega
      · cases h
theorem reps_eq : ∀ (n : Nat) (d : D), reps n d = List.replicate n d
  | 0, d => rfl
  | n + 1, d => by rw [reps, reps_eq n d]; rfl
theorem freeAll_get : ∀ {ps : List (Nat × D)}, freeAll ps = true → ∀ {k i : Nat} {d : D}, ps[k]? = some (i, d) → d.free = true
  | [], _, k, i, d, h => by simp at h
  | (j, e) :: ps, hf, k, i, d, h => by
    simp only [freeAll, Bool.and_eq_true] at hf
    cases k with
    | zero => simp at h; rw [← h.2]; exact hf.1
    | succ k => exact freeAll_get hf.2 (by simpa using h)
theorem run_buildSlice {M : Nat → Prop} {n T e z by_ len : Nat} {d : D} {ps : List (Nat × D)} {vs : List (Nat × Value)} {els : List D} (hk : kdP P T = some (.slice e z by_ d)) (hsets : setsE z (reps len d) ps = some els) (p1 : vs.length = ps.length)
    (p2 : ∀ (k i : Nat) (x : D), ps[k]? = some (i, x) → ∃ v, vs[k]? = some (i, v) ∧ Rd φ M w n x v) (hle : len * z ≤ 16777216) :
    ∃ cs', (Instr.buildSlice T len vs.toArray).run P w = .ok (.slice (some ⟨w.heap.size, 0, none⟩) len len) (w.alloc (.cells cs' e)) ∧ RowOf φ M w n z els cs' ∧ cs'.size = len * z := by
  obtain ⟨hu, ti, v, h1, h2, h3, h4, h5, h6, h7, h8, h9, h10⟩ := kd_slice hk
  rw [reps_eq] at hsets
  have hrow := row_zero (k := len) (c := len) (h10 φ M w n) h8 h7 (Nat.le_refl _)
  obtain ⟨cs', k1, k2, k3, k4⟩ := sets_rd hsets p1 p2 (by rw [size_madeCells, List.length_replicate]) hrow
  refine ⟨cs', ?_, k4, by rw [k3, size_madeCells]⟩
  have hfin : ∀ zc : Array Value, (Array.range (len * z)).map (fun x => zc[x % zc.size]!) = madeCells v.cells (len * z) →
      ((match Instr.fill (fun i => some (i * z, z)) ((Array.range (len * z)).map (fun x => zc[x % zc.size]!)) vs with
        | some cells => do pure (Value.slice (some (← newRow e cells)) len len)
        | x => stuck "buildSlice: a part of the wrong size" : Sem Value).run P w) =
      .ok (.slice (some ⟨w.heap.size, 0, none⟩) len len) (w.alloc (.cells cs' e)) := fun zc hzc => by
    rw [hzc, k1]
    rfl
  unfold Instr.buildSlice
  simp only [Sem.run_bind, run_underlying hu, Result.andThen_ok, run_sizeP h1, h3]
  rw [if_neg (show ¬ len * z > 2 ^ 24 by omega)]
  by_cases h0 : len * z = 0
  · rw [if_pos h0]
    simp only [Sem.run_bind, Sem.run_pure, Result.andThen_ok]
    exact hfin #[] (by rw [h0]; simp [madeCells])
  · rw [if_neg h0]
    simp only [Sem.run_bind, Sem.run_pure, Result.andThen_ok, run_zeroP h1 h2]
    exact hfin v.cells rfl
theorem good_buildSlice (hE : EnvOk P E) (hR : Rel C φ s a w) (hG : C.G = E.G) {T : TypeId} {len : Nat} {l : List (Nat × Operand)} {ps : List (Nat × D)} (hps : partsE E.G s l = some ps) (h : buildSliceE E T len s o.dst ps K)
    (hrun : (execOp a.eval o).run P w = ((Instr.buildSlice T len (l.map fun x => (x.1, a.eval x.2)).toArray).run P w).andThen fun v w' => .ok (.value v) w') : Good P C o a w K := by
  obtain ⟨p1, p2⟩ := partsE_rd hR hG hps
  unfold buildSliceE at h
  split at h
  · rename_i e z by_ d hk
    have h5 := (kd_slice (hE.kd hk)).2
    obtain ⟨ti, v, h1, h2, h3, h4, h5, _⟩ := h5
    split at h
    · rename_i els hsets
      split at h
      · obtain ⟨cs', k1, k4, k3⟩ := run_buildSlice (hE.kd hk) hsets p1 p2 (by omega)
        rw [k1] at hrun
        exact good_val hrun ((hR.junk _).put o.dst .nil) h
      · rename_i len
        split at h
        · rename_i hle
          obtain ⟨cs', k1, k4, k3⟩ := run_buildSlice (n := if (d.free && freeAll ps) = true then 0 else s.nx) (hE.kd hk) hsets p1 (fun k i x hx => by
            obtain ⟨u, q1, q2⟩ := p2 k i x hx
            refine ⟨u, q1, ?_⟩
            split
            · rename_i hc
              simp only [Bool.and_eq_true] at hc
              exact free_rd q2 (freeAll_get hc.2 hx)
            · exact q2) hle
          have hlm : len + 1 ≤ maxLen := by
            have := Nat.le_trans (Nat.le_mul_of_pos_right (len + 1) h5) hle
            unfold maxLen
            omega
          rw [k1] at hrun
          exact good_row hR (b := d.free && freeAll ps) (els := els) (z := z) (T := e) (cs := cs') (c := len + 1) (n := len + 1) k4 (Nat.le_refl _) hlm k3.symm hrun h
        · exact h.elim
    · exact h.elim
  · exact h.elim
end Go.Proofs.YtppmomobjjpljaaDoor.E
end

/- Part KE10. -/
section
/- A calculus for Go functions over an abstract memory (part 10): append. Conditions: those of each theorem. -/
namespace Go.Proofs.YtppmomobjjpljaaDoor.E
open Go Go.RowKit
set_option linter.unusedVariables false
set_option linter.unusedSimpArgs false
variable {P : Program} {E : Env} {φ : Nat → Nat} {w : World} {C : Ctx} {s : St} {a : Act} {o : Oper} {K : St → Prop}

theorem kill_cells (r : Nat) (e : D) : (e.kill r).cells = e.cells.map (D.kill r) := by
  cases e with
  | agg l => simp [D.kill, D.cells, killL_map]
  | tup l => simp [D.kill, D.cells, killL_map]
  | fn f l => simp [D.kill, D.cells, killL_map]
  | sl b z i n => by_cases h : b = r <;> simp [D.kill, D.cells, h]
  | ptr b z i n => by_cases h : b = r <;> simp [D.kill, D.cells, h]
  | _ => simp [D.kill, D.cells]
theorem BRel.carryK {φ' : Nat → Nat} {M M' : Nat → Prop} {w' : World} {r n n' q : Nat} {B : Blk} {cs : Array Value} (h : BRel φ M w n q B cs) (hc : Carry φ φ' M M' w w' r n) (hn : n ≤ n') (hb : w'.heap[φ' q]? = w.heap[φ q]?) :
    BRel φ' M' w' n' q (B.kill r) cs := by
  cases hf : B.flat with
  | true =>
    have : B.kill r = B := by rw [Blk.kill, if_pos hf]
    rw [this]
    exact ⟨hb.trans h.heap, h.size, h.zs, h.one, fun i e j d h1 h2 => by
      have := h.rd i e j d h1 h2
      rw [hf] at this ⊢
      exact this.move hc.zero (Nat.zero_le _) (Nat.le_refl _)⟩
  | false =>
    have : B.kill r = { B with els := B.els.map (D.kill r) } := by rw [Blk.kill, if_neg (by rw [hf]; decide)]
    rw [this]
    refine ⟨hb.trans h.heap, by simpa using h.size, fun e he => ?_, h.one, fun i e j d h1 h2 => ?_⟩
    · simp only [List.mem_map] at he
      obtain ⟨e0, he0, rfl⟩ := he
      rw [kill_cells, List.length_map]
      exact h.zs e0 he0
    · simp only [List.getElem?_map, Option.map_eq_some_iff] at h1
      obtain ⟨e0, he0, rfl⟩ := h1
      rw [kill_cells, List.getElem?_map, Option.map_eq_some_iff] at h2
      obtain ⟨d0, hd0, rfl⟩ := h2
      have := h.rd i e0 j d0 he0 hd0
      simp only [hf] at this ⊢
      exact this.carry hc n' hn
theorem killF_map (r : Nat) : ∀ l, killF r l = l.map (killT r)
  | [] => rfl
  | t :: l => by rw [killF, killF_map r l]; rfl
theorem killDf_map (r : Nat) : ∀ l, killDf r l = l.map fun x => (x.1, D.killL r x.2)
  | [] => rfl
  | (f, t) :: l => by rw [killDf, killDf_map r l]; rfl
theorem Rel.moveK {φ' : Nat → Nat} {w' : World} {hp' : List (Nat × Blk)} {nx' r : Nat} (h : Rel C φ s a w)
    (hc : Carry φ φ' (Mut C.M φ s.hp) (Mut C.M φ' hp') w w' r s.nx) (hnx : s.nx ≤ nx') (hbel : Below C.fl w w')
    (hhp : ∀ b B, lk hp' b = some B → b < nx' ∧ C.fl ≤ φ' b ∧ ∃ cs, BRel φ' (Mut C.M φ' hp') w' nx' b B cs)
    (hinj : ∀ b b' B B', lk hp' b = some B → lk hp' b' = some B' → φ' b = φ' b' → b = b') : Rel C φ' { tm := killT r s.tm, hp := hp', nx := nx', nt := s.nt, fr := killF r s.fr, df := killDf r s.df } a w' where
  nt := h.nt
  tm i d hd := by
    simp only [lk_killT, Option.map_eq_some_iff] at hd
    obtain ⟨d0, hd0, rfl⟩ := hd
    exact (h.tm i d0 hd0).carry hc nx' hnx
  frn := by simp only [killF_map, List.length_map]; exact h.frn
  fr i t vs h1 h2 j d hd := by
    simp only [killF_map, List.getElem?_map, Option.map_eq_some_iff] at h1
    obtain ⟨t0, ht0, rfl⟩ := h1
    rw [lk_killT, Option.map_eq_some_iff] at hd
    obtain ⟨d0, hd0, rfl⟩ := hd
    exact (h.fr i t0 vs ht0 h2 j d0 hd0).carry hc nx' hnx
  hp := hhp
  inj := hinj
  dfn := by simp only [killDf_map, List.length_map]; exact h.dfn
  df i f l hd := by
    simp only [killDf_map, List.getElem?_map, Option.map_eq_some_iff] at hd
    obtain ⟨x, hx, he⟩ := hd
    obtain ⟨f0, l0⟩ := x
    simp only [Prod.mk.injEq] at he
    obtain ⟨rfl, rfl⟩ := he
    obtain ⟨cs, h1, h2, h3⟩ := h.df i f0 l0 hx
    refine ⟨cs, h1, by rw [killL_map, List.length_map]; exact h2, fun j d hj => ?_⟩
    rw [killL_map, List.getElem?_map, Option.map_eq_some_iff] at hj
    obtain ⟨d0, hd0, rfl⟩ := hj
    exact (h3 j d0 hd0).carry hc nx' hnx
  below := h.below.trans hbel
  fl := Nat.le_trans h.fl hbel.size
  M := h.M
  G := h.G

/-- The cells of a source. -/
structure Src (φ : Nat → Nat) (M : Nat → Prop) (w : World) (z : Nat) (xs : List D) (ad : Addr) (news : List Value) : Prop where
  len : news.length = xs.length * z
  cell : ∀ (j : Nat) (v : Value), news[j]? = some v → w.cell? (ad.add j) = some v
  one : ∀ u ∈ news, u.oneCell' = true
  rd : ∀ i e j d, xs[i]? = some e → e.cells[j]? = some d → Rd φ M w 0 d (news.getD (i * z + j) undef)
theorem src_rd (hE : EnvOk P E) (hR : Rel C φ s a w) {z : Nat} (hz : 0 < z) {y : D} {xs : List D} {vy : Value} (hl : listE E s z y = some xs) (hin : inRow s y) (hzs : ∀ d, d ∈ xs → d.cells.length = z) (hy : Rd φ (Mut C.M φ s.hp) w s.nx y vy) :
    (xs = [] ∧ ∃ aa cc, vy = .slice aa 0 cc) ∨ ∃ ad c news, vy = .slice (some ad) xs.length c ∧ Src φ (Mut C.M φ s.hp) w z xs ad news := by
  have split_q : ∀ q k, q < k * z → q / z < k ∧ q % z < z ∧ q / z * z + q % z = q := fun q k hq => ⟨(Nat.div_lt_iff_lt_mul hz).2 hq, Nat.mod_lt _ hz, by rw [Nat.mul_comm]; exact Nat.div_add_mod q z⟩
  unfold listE at hl
  split at hl
  · cases hl
    cases hy with
    | roE h => exact .inl ⟨rfl, _, _, rfl⟩
    | @ro _ l k oo zz c g k1 k2 k3 k4 k5 k6 k7 k8 =>
      by_cases hx : xs = []
      · subst hx; exact .inl ⟨rfl, _, _, rfl⟩
      · have hzz : zz = z := by
          obtain ⟨e, he⟩ := List.exists_mem_of_ne_nil _ hx
          rw [← hzs e he, k5 e he]
        subst hzz
        have hget : ∀ q, q < xs.length * zz → ∃ e d, xs[q / zz]? = some e ∧ e.cells[q % zz]? = some d := fun q hq => by
          obtain ⟨q1, q2, q3⟩ := split_q q _ hq
          exact ⟨_, _, List.getElem?_eq_getElem q1, List.getElem?_eq_getElem (by rw [hzs _ (List.getElem_mem q1)]; exact q2)⟩
        refine .inr ⟨⟨k, oo, none⟩, c, (List.range (xs.length * zz)).map g, rfl, by simp, fun j v hj => ?_, fun u hu => ?_, fun i e j d he hd => ?_⟩
        · rw [List.getElem?_map, Option.map_eq_some_iff] at hj
          obtain ⟨q, hq, rfl⟩ := hj
          have hq1 := (List.getElem?_eq_some_iff.1 hq).1
          simp at hq1
          obtain rfl : j = q := by rw [List.getElem?_range hq1] at hq; exact Option.some.inj hq
          obtain ⟨e, d, he, hd⟩ := hget j hq1
          have := k6 _ e _ d he hd
          rw [(split_q j _ hq1).2.2] at this
          rw [add_plain]; exact this
        · simp only [List.mem_map, List.mem_range] at hu
          obtain ⟨q, hq, rfl⟩ := hu
          obtain ⟨e, d, he, hd⟩ := hget q hq
          have := k7 _ e _ d he hd
          rwa [(split_q q _ hq).2.2] at this
        · have hi := (List.getElem?_eq_some_iff.1 he).1
          have hj : j < zz := by rw [← hzs e (List.mem_of_getElem? he)]; exact (List.getElem?_eq_some_iff.1 hd).1
          have hlt := mul_lt hi hj
          have : ((List.range (xs.length * zz)).map g).getD (i * zz + j) undef = g (i * zz + j) := by
            rw [List.getD_eq_getElem?_getD, List.getElem?_map, List.getElem?_range hlt]; rfl
          rw [this]
          exact k8 i e j d he hd
  · cases hl
    cases hy
    exact .inl ⟨rfl, _, _, rfl⟩
  · rename_i b z' i n
    split at hl
    · rename_i B hB
      split at hl
      · rename_i hc
        obtain ⟨hf, hz1, hz2⟩ := hc
        rw [hE.F] at hl
        have hl : some (subL B.els i n) = some xs := hl
        cases hl
        simp only [inRow, hB] at hin
        obtain ⟨s1, s2⟩ := subL_get B.els i n hin
        obtain ⟨_, _, cs, hB2⟩ := hR.hp b B hB
        subst hz2
        cases hy with
        | @sl _ _ _ _ _ c cs' e fz k1 k2 k3 k4 k5 =>
          rw [hB2.heap] at k2
          cases k2
          have hfit : i * z' + n * z' ≤ cs.size := by
            have h1 := hB2.size
            rw [hz1] at h1
            have h2 := Nat.mul_le_mul_right z' hin
            rw [Nat.add_mul] at h2
            omega
          refine .inr ⟨⟨φ b, i * z', none⟩, c, (cs.toList.drop (i * z')).take (n * z'), by rw [s1], ?_, fun j v hj => ?_, fun u hu => ?_, fun q e j d he hd => ?_⟩
          · rw [s1]; simp; omega
          · have hj1 : j < n * z' := by
              have := (List.getElem?_eq_some_iff.1 hj).1
              simp at this; omega
            rw [List.getElem?_take_of_lt hj1, List.getElem?_drop] at hj
            rw [add_plain, cell_of_row w (φ b) _ cs B.ty (0, 0) hB2.heap]
            simpa using hj
          · exact hB2.one u (by simpa using List.mem_of_mem_drop (List.mem_of_mem_take hu))
          · have hq : q < n := by rw [← s1]; exact (List.getElem?_eq_some_iff.1 he).1
            have hj : j < z' := by rw [← hzs e (List.mem_of_getElem? he)]; exact (List.getElem?_eq_some_iff.1 hd).1
            rw [s2 q hq] at he
            have h1 := hB2.rd (i + q) e j d he hd
            rw [hf, hz1] at h1
            have : ((cs.toList.drop (i * z')).take (n * z')).getD (q * z' + j) undef = cs.getD ((i + q) * z' + j) undef := by
              rw [List.getD_eq_getElem?_getD, List.getElem?_take_of_lt (mul_lt hq hj), List.getElem?_drop, Array.getD_eq_getD_getElem?, Array.getElem?_toList, Nat.add_mul, Nat.add_assoc]
            rw [this]
            exact h1
      · cases hl
    · cases hl
  · cases hl

theorem run_append_zero (t ty e : TypeId) (ti : TypeInfo) (ht : P.underlying t = some (.slice e)) (hi : P.info? e = some ti) (base : Option Addr) (n c : Nat) (aa : Option Addr) (cc : Nat) (hn : n ≤ c) (w : World) :
    (Builtin.append_ #[t, t] ty #[.slice base n c, .slice aa 0 cc]).run P w = .ok (.slice base n c) w := by
  have hf : (Builtin.firstCells ti.size 0 (.slice aa 0 cc)).run P w = .ok #[] w := by
    cases aa with
    | none => simp [Builtin.firstCells]
    | some x => simp [Builtin.firstCells, loadCells, loadCellsFrom]
  cases base with
  | none => simp [Builtin.append_, run_underlying ht, run_sizeP hi, Builtin.lenOf, hn, hf]
  | some x => simp [Builtin.append_, run_underlying ht, run_sizeP hi, Builtin.lenOf, hn, hf, storeCells]
theorem zeroCells_made (z : Array Value) (n : Nat) : Builtin.zeroCells z n = madeCells z (n * z.size) := rfl
theorem made_one {d : D} {v : Value} {M : Nat → Prop} {n : Nat} (hd : Rd φ M w n d v) (h1 : oneL d.cells = true) {c : Nat} {u : Value} (hu : u ∈ madeCells v.cells c) (hz : 0 < v.cells.size) : u.oneCell' = true := by
  obtain ⟨h2, h3⟩ := cells_rd hd h1
  simp only [madeCells, Array.mem_map] at hu
  obtain ⟨q, hq, rfl⟩ := hu
  have hlt := Nat.mod_lt q hz
  have := (h3 (q % v.cells.size) _ (List.getElem?_eq_getElem (by omega))).2
  rw [Array.getD, dif_pos hlt] at this
  simpa [hlt] using this
theorem grown_le (w : World) (need old : Nat) (e : TypeId) (h : need ≤ maxLen) : need ≤ grownCap w need old e ∧ grownCap w need old e ≤ maxLen := ⟨grownCap_ge w need old e, grownCap_le_maxLen w need old e h⟩
theorem getD_app_left {xs ys : Array Value} {q : Nat} (h : q < xs.size) : (xs ++ ys).getD q undef = xs.getD q undef := by
  rw [Array.getD_eq_getD_getElem?, Array.getD_eq_getD_getElem?, Array.getElem?_append_left h]
theorem getD_toArray (xs : List Value) (q : Nat) : xs.toArray.getD q undef = xs.getD q undef := by
  rw [Array.getD_eq_getD_getElem?, List.getElem?_toArray, List.getD_eq_getElem?_getD]
theorem drew_heap (w : World) : w.drew.heap = w.heap := rfl

/-- append to a nil slice. -/
theorem good_append_nil (hE : EnvOk P E) (hR : Rel C φ s a w) {T e z by_ : Nat} {d y : D} {vy : Value} {xs : List D} (hk : kdP P T = some (.slice e z by_ d)) (hl : listE E s z y = some xs) (hin : inRow s y) (hzs : ∀ d, d ∈ xs → d.cells.length = z)
    (hy : Rd φ (Mut C.M φ s.hp) w s.nx y vy) (hb : xs.length * by_ ≤ 140737488355328) (hm : xs.length ≤ 9223372036854775807) (k0 : xs = [] → K (s.set o.dst .nil)) (k1 : xs ≠ [] → K ((s.new ⟨z, e, xs, true, false⟩).set o.dst (.sl s.nx z 0 xs.length)))
    {ab : Option Addr} (hrun : (execOp a.eval o).run P w = ((Builtin.append_ #[T, T] o.type #[.slice ab 0 0, vy]).run P w).andThen fun v w' => .ok (.value v) w') : Good P C o a w K := by
  obtain ⟨hu, ti, v, h1, h2, h3, h4, h5, h6, h7, h8, h9, h10⟩ := kd_slice hk
  rcases src_rd hE hR h5 hl hin hzs hy with ⟨rfl, aa, cc, rfl⟩ | ⟨ad, c, news, rfl, hs⟩
  · rw [run_append_zero T o.type e ti hu h1 ab 0 0 aa cc (Nat.le_refl _) w] at hrun
    exact good_still hR hrun .nil (k0 rfl)
  · by_cases hx : xs = []
    · subst hx
      simp only [List.length_nil] at hrun
      rw [run_append_zero T o.type e ti hu h1 ab 0 0 (some ad) c (Nat.le_refl _) w] at hrun
      exact good_still hR hrun .nil (k0 rfl)
    · have hpos : 0 < xs.length := List.length_pos_iff.2 hx
      have hr : (Builtin.append_ #[T, T] o.type #[.slice ab 0 0, .slice (some ad) xs.length c]).run P w = .ok (.slice (some ⟨w.heap.size, 0, none⟩) xs.length (grownCap w xs.length 0 e)) (w.drew.alloc (.cells (news.toArray ++ Builtin.zeroCells v.cells (grownCap w xs.length 0 e - xs.length)) e)) := by
        cases ab with
        | none => exact run_append_nil (P := P) w T o.type e ti v hu h1 h2 ad xs.length c news (by rw [h3]; exact hs.len) hs.cell hpos (by omega) (by rw [h4]; omega)
        | some b0 =>
          have := run_append_grow (P := P) w T o.type e ti v hu h1 h2 b0 0 0 [] (by simp) (fun j u hj => by simp at hj) ad xs.length c news (by rw [h3]; exact hs.len) hs.cell (by omega) (by omega) (growslice_fits (by omega) (by rw [h4, Nat.zero_add]; exact hb))
          simpa using this
      rw [hr] at hrun
      have hml : xs.length ≤ maxLen := by unfold maxLen; omega
      obtain ⟨g1, g2⟩ := grown_le w xs.length 0 e hml
      have hR1 := hR.drew 1
      have hRow : RowOf φ (Mut C.M φ s.hp) w.drew (if true = true then 0 else s.nx) z xs (news.toArray ++ Builtin.zeroCells v.cells (grownCap w xs.length 0 e - xs.length)) := by
        refine ⟨by simp [hs.len], hzs, fun u hu => ?_, fun i el j x he hd => ?_⟩
        · rcases Array.mem_append.1 hu with hu | hu
          · exact hs.one u (by simpa using hu)
          · exact made_one (h10 φ (Mut C.M φ s.hp) w 0) h8 hu (by omega)
        · have hi := (List.getElem?_eq_some_iff.1 he).1
          have hj : j < z := by rw [← hzs el (List.mem_of_getElem? he)]; exact (List.getElem?_eq_some_iff.1 hd).1
          rw [getD_app_left (by simp only [List.size_toArray]; rw [hs.len]; exact mul_lt hi hj), getD_toArray]
          have := hs.rd i el j x he hd
          exact this.move (r := 0) (n' := 0) (w' := w.drew) ⟨Nat.le_refl _, fun _ _ _ => rfl, fun _ _ _ => rfl, fun _ _ h => h, fun b hb => absurd hb (Nat.not_lt_zero b)⟩ (Nat.le_refl _) (Nat.le_refl _)
      have h11 := hR1.alloc ⟨z, e, xs, true, false⟩ _ hRow.size hRow.zs hRow.one hRow.rd
      refine good_val (s' := ((s.new ⟨z, e, xs, true, false⟩).set o.dst (.sl s.nx z 0 xs.length))) hrun (h11.put o.dst ?_) (k1 hx)
      have hsz : (0 + grownCap w xs.length 0 e) * z = (news.toArray ++ Builtin.zeroCells v.cells (grownCap w xs.length 0 e - xs.length)).size := by
        simp only [Array.size_append, List.size_toArray, size_zeroCells, h6, hs.len, ← Nat.add_mul]
        congr 1
        omega
      have := Rd.sl (φ := upd φ s.nx w.heap.size) (M := Mut C.M (upd φ s.nx w.heap.size) (s.new ⟨z, e, xs, true, false⟩).hp) (w := w.drew.alloc (.cells (news.toArray ++ Builtin.zeroCells v.cells (grownCap w xs.length 0 e - xs.length)) e)) (n := s.nx + 1) (b := s.nx) (z := z) (i := 0) (m := xs.length) (c := grownCap w xs.length 0 e) (Nat.lt_succ_self _)
        (by rw [upd_new]; exact heap_alloc_new w.drew _) hsz g1 g2
      rw [upd_new, Nat.zero_mul] at this
      exact this

/-- append to a row of the call's own. -/
theorem good_append_own (hE : EnvOk P E) (hR : Rel C φ s a w) {T e z by_ b n : Nat} {d y : D} {vx vy : Value} {xs : List D} {B : Blk} (hk : kdP P T = some (.slice e z by_ d)) (hl : listE E s z y = some xs) (hin : inRow s y) (hzs : ∀ d, d ∈ xs → d.cells.length = z)
    (hy : Rd φ (Mut C.M φ s.hp) w s.nx y vy) (hx : Rd φ (Mut C.M φ s.hp) w s.nx (.sl b z 0 n) vx) (hB : lk s.hp b = some B) (hBz : B.z = z) (hBt : B.ty = e) (hBv : B.var = false) (hBf : B.flat = true) (hn : n = B.els.length)
    (hb : (n + xs.length) * by_ ≤ 140737488355328) (hm : n + xs.length ≤ 9223372036854775807)
    (hK : K ((let s' := s.kill b; { s' with hp := hset s'.hp b { z := z, ty := e, els := B.els ++ xs, flat := true, var := false } }).set o.dst (.sl b z 0 (n + xs.length))))
    (hrun : (execOp a.eval o).run P w = ((Builtin.append_ #[T, T] o.type #[vx, vy]).run P w).andThen fun v w' => .ok (.value v) w') : Good P C o a w K := by
  obtain ⟨hu, ti, v, h1, h2, h3, h4, h5, h6, h7, h8, h9, h10⟩ := kd_slice hk
  obtain ⟨hbn, hfl, cs, hB2⟩ := hR.hp b B hB
  cases hx with
  | @sl _ _ _ _ _ c cs' e' fz k1 k2 k3 k4 k5 =>
  rw [hB2.heap] at k2
  cases k2
  rw [Nat.zero_add] at k3
  rw [Nat.zero_mul] at hrun
  have hml : n + xs.length ≤ maxLen := by unfold maxLen; omega
  have hgb : φ b < w.heap.size := (Array.getElem?_eq_some_iff.1 hB2.heap).1
  -- what follows from a later world in which block g holds the old cells and the new ones
  have fin : ∀ (φ' : Nat → Nat) (w' : World) (c' : Nat) (cs2 : Array Value), (∀ q, q ≠ b → φ' q = φ q) → w.heap.size ≤ w'.heap.size → (∀ k, k < w.heap.size → k ≠ φ b → w'.heap[k]? = w.heap[k]?) → (φ' b = φ b ∨ w.heap.size ≤ φ' b) →
      (∃ cs3 e3 fz3, w'.heap[φ b]? = some (.cells cs3 e3 fz3) ∧ cs3.size = cs.size) → w'.os = w.os → w'.tape = w.tape → w'.output = w.output → w'.heap[φ' b]? = some (.cells cs2 e (0, 0)) → c' * z = cs2.size → n + xs.length ≤ c' → c' ≤ maxLen → (∀ u, u ∈ cs2 → u.oneCell' = true) →
      (∀ i e' j x, B.els[i]? = some e' → e'.cells[j]? = some x → Rd φ (Mut C.M φ s.hp) w 0 x (cs2.getD (i * z + j) undef)) →
      (∀ i e' j x, xs[i]? = some e' → e'.cells[j]? = some x → Rd φ (Mut C.M φ s.hp) w 0 x (cs2.getD ((n + i) * z + j) undef)) →
      (execOp a.eval o).run P w = .ok (.value (.slice (some ⟨φ' b, 0, none⟩) (n + xs.length) c')) w' → Good P C o a w K := by
    intro φ' w' c' cs2 hφ hsz hoth hg hloc hos htape hout hheap hc2 hnc hcm hone hold hnew hrun'
    have hbel : Below C.fl w w' := ⟨hos, htape, hout, hsz, fun k hk => hoth k (Nat.lt_of_lt_of_le hk hR.fl) (by omega)⟩
    have hlk : ∀ q X, lk (hset (killH b s.hp) b { z := z, ty := e, els := B.els ++ xs, flat := true, var := false }) q = some X → (q = b ∧ X = { z := z, ty := e, els := B.els ++ xs, flat := true, var := false }) ∨ (q ≠ b ∧ ∃ X0, lk s.hp q = some X0 ∧ X = X0.kill b) := by
      intro q X hX
      rw [lk_hset] at hX
      split at hX
      · rename_i hq
        rw [lk_killH, hB] at hX
        exact .inl ⟨hq, (Option.some.inj hX).symm⟩
      · rename_i hq
        rw [lk_killH, Option.map_eq_some_iff] at hX
        obtain ⟨X0, h, rfl⟩ := hX
        exact .inr ⟨hq, X0, h, rfl⟩
    have hcy : ∀ m, m ≤ s.nx → Carry φ φ' (Mut C.M φ s.hp) (Mut C.M φ' (hset (killH b s.hp) b { z := z, ty := e, els := B.els ++ xs, flat := true, var := false })) w w' b m := fun m hm' =>
      ⟨hsz, fun q _ hq => hφ q hq, fun k hk hM => hoth k hk (fun h => hM (.inr ⟨b, B, hB, h.symm⟩)), fun k hk hM => by
        rcases hM with hM | ⟨q, X, hX, rfl⟩
        · exact .inl hM
        · rcases hlk q X hX with ⟨rfl, _⟩ | ⟨hq, X0, h, _⟩
          · rcases hg with hg | hg
            · exact .inr ⟨q, B, hB, hg.symm⟩
            · omega
          · exact .inr ⟨q, X0, h, (hφ q hq).symm⟩, fun q _ hq cs0 e0 fz0 h0 => by
        by_cases hqb : φ q = φ b
        · rw [hqb, hB2.heap] at h0
          cases h0
          rw [hqb]
          exact hloc
        · exact ⟨cs0, e0, fz0, by rw [hoth _ (Array.getElem?_eq_some_iff.1 h0).1 hqb]; exact h0, rfl⟩⟩
    have hflb : C.fl ≤ φ' b := by
      rcases hg with hg | hg
      · rw [hg]; exact hfl
      · exact Nat.le_trans hR.fl hg
    have hR' := hR.moveK (hp' := hset (killH b s.hp) b { z := z, ty := e, els := B.els ++ xs, flat := true, var := false }) (hcy s.nx (Nat.le_refl _)) (Nat.le_refl _) hbel (fun q X hX => by
        rcases hlk q X hX with ⟨rfl, rfl⟩ | ⟨hq, X0, h, rfl⟩
        · refine ⟨hbn, hflb, cs2, ⟨hheap, ?_, fun e' he' => ?_, hone, fun i e' j x he' hx' => ?_⟩⟩
          · simp only [List.length_append]
            rw [← hc2, ← hn]
            exact Nat.mul_le_mul_right _ hnc
          · rcases List.mem_append.1 he' with he' | he'
            · rw [← hBz]; exact hB2.zs e' he'
            · exact hzs e' he'
          · simp only at he' hx' ⊢
            have key : Rd φ (Mut C.M φ s.hp) w 0 x (cs2.getD (i * z + j) undef) := by
              rcases Nat.lt_or_ge i B.els.length with hi | hi
              · rw [List.getElem?_append_left hi] at he'
                exact hold i e' j x he' hx'
              · rw [List.getElem?_append_right hi] at he'
                have := hnew (i - B.els.length) e' j x he' hx'
                rwa [hn, show B.els.length + (i - B.els.length) = i by omega] at this
            exact key.move (hcy 0 (Nat.zero_le _)) (Nat.zero_le _) (Nat.le_refl _)
        · obtain ⟨q1, q2, cs0, q3⟩ := hR.hp q X0 h
          have hne : φ q ≠ φ b := fun h2 => hq (hR.inj q b X0 B h hB h2)
          refine ⟨q1, by rw [hφ q hq]; exact q2, cs0, q3.carryK (hcy s.nx (Nat.le_refl _)) (Nat.le_refl _) ?_⟩
          rw [hφ q hq]
          exact hoth _ (Array.getElem?_eq_some_iff.1 q3.heap).1 hne) (fun q q' X X' hX hX' he => by
        rcases hlk q X hX with ⟨rfl, _⟩ | ⟨hq, X0, h, _⟩ <;> rcases hlk q' X' hX' with ⟨rfl, _⟩ | ⟨hq', X0', h', _⟩
        · rfl
        · rw [hφ q' hq'] at he
          obtain ⟨_, _, cs0, q3⟩ := hR.hp q' X0' h'
          rcases hg with hg | hg
          · rw [hg] at he; exact hR.inj q q' B X0' hB h' he
          · have := (Array.getElem?_eq_some_iff.1 q3.heap).1
            omega
        · rw [hφ q hq] at he
          obtain ⟨_, _, cs0, q3⟩ := hR.hp q X0 h
          rcases hg with hg | hg
          · rw [hg] at he; exact hR.inj q q' X0 B h hB he
          · have := (Array.getElem?_eq_some_iff.1 q3.heap).1
            omega
        · rw [hφ q hq, hφ q' hq'] at he
          exact hR.inj q q' X0 X0' h h' he)
    refine good_val hrun' (hR'.put o.dst ?_) hK
    have := Rd.sl (φ := φ') (M := Mut C.M φ' (hset (killH b s.hp) b { z := z, ty := e, els := B.els ++ xs, flat := true, var := false })) (w := w') (n := s.nx) (b := b) (z := z) (i := 0) (m := n + xs.length) (c := c') k1 hheap (by rw [Nat.zero_add]; exact hc2) hnc hcm
    rw [Nat.zero_mul] at this
    exact this
  have hcsz : c * z = cs.size := k3
  have hold0 : ∀ i e' j x, B.els[i]? = some e' → e'.cells[j]? = some x → i * z + j < n * z ∧ Rd φ (Mut C.M φ s.hp) w 0 x (cs.getD (i * z + j) undef) := fun i e' j x he' hx' => by
    have := hB2.rd i e' j x he' hx'
    rw [hBf, hBz] at this
    refine ⟨?_, this⟩
    have hi := (List.getElem?_eq_some_iff.1 he').1
    have hj : j < z := by rw [← hBz, ← hB2.zs e' (List.mem_of_getElem? he')]; exact (List.getElem?_eq_some_iff.1 hx').1
    exact mul_lt (by omega) hj
  have hnz : n * z ≤ cs.size := by rw [← hcsz]; exact Nat.mul_le_mul_right _ k4
  rcases src_rd hE hR h5 hl hin hzs hy with ⟨rfl, aa, cc, rfl⟩ | ⟨ad, cc, news, rfl, hs⟩
  · rw [run_append_zero T o.type e ti hu h1 _ n c aa cc k4 w] at hrun
    refine fin φ w c cs (fun _ _ => rfl) (Nat.le_refl _) (fun _ _ _ => rfl) (.inl rfl) ⟨_, _, _, hB2.heap, rfl⟩ rfl rfl rfl (by rw [hB2.heap, hBt]) hcsz (by simpa using k4) k5 hB2.one (fun i e' j x h h' => (hold0 i e' j x h h').2) (fun i e' j x h => by simp at h) (by simpa using hrun)
  · by_cases hroom : n + xs.length ≤ c
    · have hfit : n * ti.size + news.length ≤ cs.size := by rw [h3, hs.len, ← Nat.add_mul, ← hcsz]; exact Nat.mul_le_mul_right _ hroom
      have hr := run_append_room (P := P) w T o.type e ti hu h1 (φ b) n c cs (by rw [hB2.heap, hBt]) ad xs.length cc news (by rw [h3]; exact hs.len) hs.cell hs.one hroom hfit
      rw [hr, h3] at hrun
      rw [h3] at hfit
      have hgd : ∀ q, (cs.toList.take (n * z) ++ news ++ cs.toList.drop (n * z + news.length)).toArray.getD q undef = if n * z ≤ q ∧ q < n * z + news.length then news.getD (q - n * z) undef else cs.getD q undef := fun q => by
        rw [getD_toArray, List.getD_eq_getElem?_getD, splice_get _ _ _ _ (by simpa using hfit)]
        split
        · rw [List.getD_eq_getElem?_getD]
        · rw [Array.getD_eq_getD_getElem?, Array.getElem?_toList]
      have hsz2 : (cs.toList.take (n * z) ++ news ++ cs.toList.drop (n * z + news.length)).toArray.size = cs.size := by
        simp only [List.size_toArray, List.length_append, List.length_take, List.length_drop, Array.length_toList]; omega
      have hhp : (w.setRow (φ b) (cs.toList.take (n * z) ++ news ++ cs.toList.drop (n * z + news.length)).toArray).heap[φ b]? = some (.cells (cs.toList.take (n * z) ++ news ++ cs.toList.drop (n * z + news.length)).toArray e (0, 0)) := setRow_heap _ _ cs _ _ _ (by rw [hB2.heap, hBt])
      refine fin φ _ c _ (fun _ _ => rfl) (by simp [World.setRow]) (fun k _ hk => setRow_other _ _ _ _ hk) (.inl rfl) ⟨_, _, _, hhp, hsz2⟩ rfl rfl rfl hhp (by rw [hsz2]; exact hcsz) hroom k5 (fun u hu => ?_) (fun i e' j x h h' => ?_) (fun i e' j x h h' => ?_) hrun
      · have hu : u ∈ cs.toList.take (n * z) ++ news ++ cs.toList.drop (n * z + news.length) := by simpa using hu
        rcases List.mem_append.1 hu with hu | hu
        · rcases List.mem_append.1 hu with hu | hu
          · exact hB2.one u (by simpa using List.mem_of_mem_take hu)
          · exact hs.one u hu
        · exact hB2.one u (by simpa using List.mem_of_mem_drop hu)
      · obtain ⟨q1, q2⟩ := hold0 i e' j x h h'
        have hin : ¬ (n * z ≤ i * z + j ∧ i * z + j < n * z + news.length) := by omega
        rw [hgd, if_neg hin]
        exact q2
      · have hi := (List.getElem?_eq_some_iff.1 h).1
        have hj : j < z := by rw [← hzs e' (List.mem_of_getElem? h)]; exact (List.getElem?_eq_some_iff.1 h').1
        have hlt := mul_lt hi hj
        have hin : n * z ≤ (n + i) * z + j ∧ (n + i) * z + j < n * z + news.length := by rw [Nat.add_mul, hs.len]; omega
        rw [hgd, if_pos hin, show (n + i) * z + j - n * z = i * z + j by rw [Nat.add_mul]; omega]
        exact hs.rd i e' j x h h'
    · have hr := run_append_grow (P := P) w T o.type e ti v hu h1 h2 ⟨φ b, 0, none⟩ n c (cs.toList.take (n * z)) (by rw [h3]; simp; omega) (fun j u hj => by
          have hj1 : j < n * z := by have := (List.getElem?_eq_some_iff.1 hj).1; simp at this; omega
          rw [List.getElem?_take_of_lt hj1] at hj
          rw [add_plain, cell_of_row w (φ b) _ cs B.ty (0, 0) hB2.heap, Nat.zero_add]
          simpa using hj) ad xs.length cc news (by rw [h3]; exact hs.len) hs.cell (by omega) (by omega) (growslice_fits (by omega) (by rw [h4]; exact hb))
      rw [hr] at hrun
      obtain ⟨g1, g2⟩ := grown_le w (n + xs.length) c e hml
      have htl : (cs.toList.take (n * z)).length = n * z := by simp; omega
      have hall : ((cs.toList.take (n * z)).toArray ++ news.toArray).size = (n + xs.length) * z := by simp only [Array.size_append, List.size_toArray, htl, hs.len, Nat.add_mul]
      refine fin (upd φ b w.heap.size) _ (grownCap w (n + xs.length) c e) _ (fun q hq => upd_old φ hq) (by simp [drew_heap]) (fun k hk _ => Below.heap_alloc w.drew _ k hk) (.inr (by rw [upd_new]; exact Nat.le_refl _)) ⟨_, _, _, (Below.heap_alloc w.drew _ _ hgb).trans hB2.heap, rfl⟩ rfl rfl rfl
        (by rw [upd_new]; exact heap_alloc_new w.drew _) ?_ g1 g2 (fun u hu => ?_) (fun i e' j x h h' => ?_) (fun i e' j x h h' => ?_) (by rw [upd_new]; exact hrun)
      · rw [Array.size_append, hall, size_zeroCells, h6, ← Nat.add_mul]
        congr 1
        omega
      · rcases Array.mem_append.1 hu with hu | hu
        · rcases Array.mem_append.1 hu with hu | hu
          · have hu : u ∈ cs.toList.take (n * z) := by simpa using hu
            exact hB2.one u (by simpa using List.mem_of_mem_take hu)
          · exact hs.one u (by simpa using hu)
        · exact made_one (h10 φ (Mut C.M φ s.hp) w 0) h8 hu (by omega)
      · obtain ⟨q1, q2⟩ := hold0 i e' j x h h'
        rw [getD_app_left (by rw [hall, Nat.add_mul]; omega), getD_app_left (by simp only [List.size_toArray, htl]; exact q1), getD_toArray, List.getD_eq_getElem?_getD, List.getElem?_take_of_lt q1]
        rw [Array.getD_eq_getD_getElem?, ← Array.getElem?_toList] at q2
        exact q2
      · have hi := (List.getElem?_eq_some_iff.1 h).1
        have hj : j < z := by rw [← hzs e' (List.mem_of_getElem? h)]; exact (List.getElem?_eq_some_iff.1 h').1
        have hlt := mul_lt hi hj
        rw [getD_app_left (by rw [hall, Nat.add_mul, Nat.add_mul]; omega)]
        have : ((cs.toList.take (n * z)).toArray ++ news.toArray).getD ((n + i) * z + j) undef = news.getD (i * z + j) undef := by
          rw [Array.getD_eq_getD_getElem?, Array.getElem?_append_right (by simp only [List.size_toArray, htl, Nat.add_mul]; omega), List.getElem?_toArray, List.getD_eq_getElem?_getD]
          simp only [List.size_toArray, htl]
          congr 2
          rw [Nat.add_mul]
          omega
        rw [this]
        exact hs.rd i e' j x h h'
end Go.Proofs.YtppmomobjjpljaaDoor.E
end

/- Part KE11. -/
section
/- A calculus for Go functions over an abstract memory (part 11): calls. Conditions: those of each theorem. -/
namespace Go.Proofs.YtppmomobjjpljaaDoor.E
open Go Go.RowKit
set_option linter.unusedVariables false
set_option linter.unusedSimpArgs false
variable {P : Program} {E : Env} {φ : Nat → Nat} {w : World} {C : Ctx} {s : St} {a : Act} {o : Oper} {K : St → Prop}

theorem reifyL_get : ∀ {l r : List D}, reifyL E s l = some r → r.length = l.length ∧ ∀ (i : Nat) (d' : D), r[i]? = some d' → ∃ d, l[i]? = some d ∧ reify E s d = some d'
  | [], r, h => by simp only [reifyL] at h; cases h; exact ⟨rfl, fun i d hd => by simp at hd⟩
  | d :: l, r, h => by
    simp only [reifyL] at h
    split at h
    · rename_i x q h1 h2
      cases h
      obtain ⟨h3, h4⟩ := reifyL_get h2
      refine ⟨by simp [h3], fun i e he => ?_⟩
      cases i with
      | zero => simp at he; subst he; exact ⟨d, rfl, h1⟩
      | succ i => exact h4 i e (by simpa using he)
    · cases h
theorem inRowsL_get : ∀ {l : List D}, inRowsL s l → ∀ {i : Nat} {d : D}, l[i]? = some d → inRows s d
  | [], _, i, d, h => by simp at h
  | e :: l, hi, i, d, h => by
    simp only [inRowsL] at hi
    cases i with
    | zero => simp at h; rw [← h]; exact hi.1
    | succ i => exact inRowsL_get hi.2 (by simpa using h)
theorem reify_free {M : Nat → Prop} {n : Nat} {d : D} {v : Value} (h : Rd φ M w n d v) : d.free = true → ∀ d', reify E s d = some d' → Rd φ M w 0 d' v := by
  induction h with
  | int => intro _ d' hd; simp only [reify] at hd; cases hd; exact .int
  | bool => intro _ d' hd; simp only [reify] at hd; cases hd; exact .bool
  | str => intro _ d' hd; simp only [reify] at hd; cases hd; exact .str
  | sc h => intro _ d' hd; simp only [reify] at hd; cases hd; exact .sc h
  | nil => intro _ d' hd; simp only [reify] at hd; cases hd; exact .roE fun _ => rfl
  | roE h => intro _ d' hd; simp only [reify] at hd; cases hd; exact .roE h
  | ro g h1 h2 h3 h4 h5 h6 h7 h8 => intro _ d' hd; simp only [reify] at hd; cases hd; exact .ro g h1 h2 h3 h4 h5 h6 h7 h8
  | rp g h1 h2 h3 h4 => intro _ d' hd; simp only [reify] at hd; cases hd; exact .rp g h1 h2 h3 h4
  | sl => intro hf; simp [D.free] at hf
  | ptr => intro hf; simp [D.free] at hf
  | undef => intro _ d' hd; simp only [reify] at hd; cases hd; exact .undef
  | agg hn h ih =>
    intro hf d' hd
    simp only [reify] at hd
    split at hd
    · rename_i r hr
      cases hd
      obtain ⟨h1, h2⟩ := reifyL_get hr
      refine .agg (by rw [hn, h1]) fun i e he => ?_
      obtain ⟨e0, h3, h4⟩ := h2 i e he
      exact ih i e0 h3 (freeL_get (by simpa [D.free] using hf) h3) e h4
    · cases hd
  | tup hn h ih =>
    intro hf d' hd
    simp only [reify] at hd
    split at hd
    · rename_i r hr
      cases hd
      obtain ⟨h1, h2⟩ := reifyL_get hr
      refine .tup (by rw [hn, h1]) fun i e he => ?_
      obtain ⟨e0, h3, h4⟩ := h2 i e he
      exact ih i e0 h3 (freeL_get (by simpa [D.free] using hf) h3) e h4
    · cases hd
  | fn hn h ih =>
    intro hf d' hd
    simp only [reify] at hd
    split at hd
    · rename_i r hr
      cases hd
      obtain ⟨h1, h2⟩ := reifyL_get hr
      refine .fn (by rw [hn, h1]) fun i e he => ?_
      obtain ⟨e0, h3, h4⟩ := h2 i e he
      exact ih i e0 h3 (freeL_get (by simpa [D.free] using hf) h3) e h4
    · cases hd
/-- Told by content alone, for as long as nothing that is there is written. -/
theorem reify_rd (hE : EnvOk P E) (hR : Rel C φ s a w) {n : Nat} {d : D} {v : Value} (h : Rd φ (Mut C.M φ s.hp) w n d v) : inRows s d → ∀ d' M', (∀ k, M' k → C.M k) → reify E s d = some d' → Rd φ M' w 0 d' v := by
  have hsub : ∀ M', (∀ k, M' k → C.M k) → Carry φ φ (Mut C.M φ s.hp) M' w w 0 0 := fun M' hM => ⟨Nat.le_refl _, fun _ _ _ => rfl, fun _ _ _ => rfl, fun k _ hk => .inl (hM k hk), fun b hb => absurd hb (Nat.not_lt_zero b)⟩
  generalize hMM : Mut C.M φ s.hp = MM at h
  induction h with
  | int => intro _ d' M' hM hd; simp only [reify] at hd; cases hd; exact .int
  | bool => intro _ d' M' hM hd; simp only [reify] at hd; cases hd; exact .bool
  | str => intro _ d' M' hM hd; simp only [reify] at hd; cases hd; exact .str
  | sc h => intro _ d' M' hM hd; simp only [reify] at hd; cases hd; exact .sc h
  | nil => intro _ d' M' hM hd; simp only [reify] at hd; cases hd; exact .roE fun _ => rfl
  | roE h => intro _ d' M' hM hd; simp only [reify] at hd; cases hd; exact .roE h
  | ro g h1 h2 h3 h4 h5 h6 h7 h8 =>
    intro _ d' M' hM hd; simp only [reify] at hd; cases hd
    subst hMM
    exact .ro g h1 h2 (fun hk => h3 (.inl (hM _ hk))) h4 h5 h6 h7 fun i e j d he hd => (h8 i e j d he hd).move (hsub M' hM) (Nat.le_refl _) (Nat.le_refl _)
  | rp g h1 h2 h3 h4 =>
    intro _ d' M' hM hd; simp only [reify] at hd; cases hd
    subst hMM
    exact .rp g (fun hk => h1 (.inl (hM _ hk))) h2 h3 fun i d hd => (h4 i d hd).move (hsub M' hM) (Nat.le_refl _) (Nat.le_refl _)
  | undef => intro _ d' M' hM hd; simp only [reify] at hd; cases hd; exact .undef
  | @sl _ b z i m c cs e fz k1 k2 k3 k4 k5 =>
    intro hin d' M' hM hd
    subst hMM
    simp only [reify] at hd
    split at hd
    · rename_i B hB
      split at hd
      · rename_i hc
        obtain ⟨hf, hz⟩ := hc
        cases hd
        rw [hE.F]
        show Rd φ M' w 0 (.ro (subL B.els i m)) _
        simp only [inRows, hB] at hin
        obtain ⟨s1, s2⟩ := subL_get B.els i m hin
        obtain ⟨_, hfl, cs', hB2⟩ := hR.hp b B hB
        rw [hB2.heap] at k2
        cases k2
        have hrange : ∀ q e j d, (subL B.els i m)[q]? = some e → e.cells[j]? = some d → B.els[i + q]? = some e ∧ (i + q) * z + j < cs.size := fun q e j d he hd => by
          have hq : q < m := by rw [← s1]; exact (List.getElem?_eq_some_iff.1 he).1
          rw [s2 q hq] at he
          refine ⟨he, ?_⟩
          have hj : j < z := by rw [← hz, ← hB2.zs e (List.mem_of_getElem? he)]; exact (List.getElem?_eq_some_iff.1 hd).1
          have := mul_lt (show i + q < i + c by omega) hj
          omega
        have := Rd.ro (φ := φ) (M := M') (w := w) (n := 0) (l := subL B.els i m) (k := φ b) (o := i * z) (z := z) (c := c) (fun q => cs.getD (i * z + q) undef) (by omega) k5
          (fun hk => by have := hR.M _ (hM _ hk); omega) (Array.getElem?_eq_some_iff.1 hB2.heap).1
          (fun e he => by
            obtain ⟨q, hq, rfl⟩ := List.getElem_of_mem he
            have := s2 q (by omega)
            rw [List.getElem?_eq_getElem hq] at this
            rw [← hz]
            exact hB2.zs _ (List.mem_of_getElem? this.symm))
          (fun q e j d he hd => by
            obtain ⟨h1, h2⟩ := hrange q e j d he hd
            rw [cell_of_row w (φ b) _ cs B.ty (0, 0) hB2.heap, ← Nat.add_assoc, ← Nat.add_mul, Array.getElem?_eq_getElem h2, getD_at h2])
          (fun q e j d he hd => by
            obtain ⟨h1, h2⟩ := hrange q e j d he hd
            rw [← Nat.add_assoc, ← Nat.add_mul, ← getD_at h2]
            exact hB2.one _ (Array.getElem_mem h2))
          (fun q e j d he hd => by
            obtain ⟨h1, h2⟩ := hrange q e j d he hd
            have h3 := hB2.rd (i + q) e j d h1 hd
            rw [hf, hz] at h3
            rw [← Nat.add_assoc, ← Nat.add_mul]
            exact h3.move (hsub M' hM) (Nat.le_refl _) (Nat.le_refl _))
        rw [s1] at this
        exact this
      · cases hd
    · cases hd
  | @ptr _ b z i j k1 =>
    intro hin d' M' hM hd
    subst hMM
    simp only [reify] at hd
    split at hd
    · rename_i B hB
      split at hd
      · rename_i hc
        obtain ⟨hf, hz⟩ := hc
        split at hd
        · rename_i e hv hels
          cases hd
          obtain ⟨_, hfl, cs', hB2⟩ := hR.hp b B hB
          have he : B.els[0]? = some e := by rw [hels]; rfl
          have hlen : e.cells.length = B.z := hB2.zs e (List.mem_of_getElem? he)
          have hsz : B.z ≤ cs'.size := by
            have := hB2.size
            rw [hels] at this
            simpa using this
          refine .rp (k := φ b) (o := 0 * z) (fun q => cs'.getD q undef) (fun hk => by have := hR.M _ (hM _ hk); omega) (Array.getElem?_eq_some_iff.1 hB2.heap).1 (fun q d hd => ?_) (fun q d hd => ?_)
          · have hq : q < cs'.size := by have := (List.getElem?_eq_some_iff.1 hd).1; omega
            rw [cell_of_row w (φ b) _ cs' B.ty (0, 0) hB2.heap, Nat.zero_mul, Nat.zero_add, Array.getElem?_eq_getElem hq, getD_at hq]
          · have h3 := hB2.rd 0 e q d he hd
            rw [hf, Nat.zero_mul, Nat.zero_add] at h3
            exact h3.move (hsub M' hM) (Nat.le_refl _) (Nat.le_refl _)
        · cases hd
      · cases hd
    · cases hd
  | agg hn h ih =>
    intro hin d' M' hM hd
    simp only [reify] at hd
    split at hd
    · rename_i r hr
      cases hd
      obtain ⟨h1, h2⟩ := reifyL_get hr
      refine .agg (by rw [hn, h1]) fun i e he => ?_
      obtain ⟨e0, h3, h4⟩ := h2 i e he
      exact ih i e0 h3 (inRowsL_get (by simpa [inRows] using hin) h3) e M' hM h4
    · cases hd
  | tup hn h ih =>
    intro hin d' M' hM hd
    simp only [reify] at hd
    split at hd
    · rename_i r hr
      cases hd
      obtain ⟨h1, h2⟩ := reifyL_get hr
      refine .tup (by rw [hn, h1]) fun i e he => ?_
      obtain ⟨e0, h3, h4⟩ := h2 i e he
      exact ih i e0 h3 (inRowsL_get (by simpa [inRows] using hin) h3) e M' hM h4
    · cases hd
  | fn hn h ih =>
    intro hin d' M' hM hd
    simp only [reify] at hd
    split at hd
    · rename_i r hr
      cases hd
      obtain ⟨h1, h2⟩ := reifyL_get hr
      refine .fn (by rw [hn, h1]) fun i e he => ?_
      obtain ⟨e0, h3, h4⟩ := h2 i e he
      exact ih i e0 h3 (inRowsL_get (by simpa [inRows] using hin) h3) e M' hM h4
    · cases hd
theorem upL_map (k : Nat) : ∀ l : List D, D.upL k l = l.map (D.up k)
  | [] => rfl
  | d :: l => by rw [D.upL, upL_map k l]; rfl
theorem noroL_get : ∀ {l : List D}, D.noroL l = true → ∀ {i : Nat} {d : D}, l[i]? = some d → d.noro = true
  | [], _, i, d, h => by simp at h
  | e :: l, hf, i, d, h => by
    simp only [D.noroL, Bool.and_eq_true] at hf
    cases i with
    | zero => simp at h; rw [← h]; exact hf.1
    | succ i => exact noroL_get hf.2 (by simpa using h)
theorem dryL_get : ∀ {l : List D}, D.dryL l = true → ∀ {i : Nat} {d : D}, l[i]? = some d → d.dry = true
  | [], _, i, d, h => by simp at h
  | e :: l, hf, i, d, h => by
    simp only [D.dryL, Bool.and_eq_true] at hf
    cases i with
    | zero => simp at h; rw [← h]; exact hf.1
    | succ i => exact dryL_get hf.2 (by simpa using h)
theorem dry_cells {e : D} (h : e.dry = true) {j : Nat} {d : D} (hd : e.cells[j]? = some d) : d.dry = true := by
  cases e with
  | agg l => exact dryL_get (l := l) (by simpa [D.dry] using h) hd
  | _ =>
    cases j with
    | zero => simp [D.cells] at hd; rw [← hd]; exact h
    | succ i => simp [D.cells] at hd
theorem dry_rd {φ' : Nat → Nat} {M M' : Nat → Prop} {w' : World} {n n' : Nat} {d : D} {v : Value} (h : Rd φ M w n d v) : d.dry = true → Rd φ' M' w' n' d v := by
  induction h with
  | int => intro _; exact .int
  | bool => intro _; exact .bool
  | str => intro _; exact .str
  | sc h => intro _; exact .sc h
  | nil => intro _; exact .nil
  | undef => intro _; exact .undef
  | roE => intro hf; simp [D.dry] at hf
  | ro => intro hf; simp [D.dry] at hf
  | rp => intro hf; simp [D.dry] at hf
  | sl => intro hf; simp [D.dry] at hf
  | ptr => intro hf; simp [D.dry] at hf
  | agg hn h ih => intro hf; exact .agg hn fun i d hd => ih i d hd (dryL_get (by simpa [D.dry] using hf) hd)
  | tup hn h ih => intro hf; exact .tup hn fun i d hd => ih i d hd (dryL_get (by simpa [D.dry] using hf) hd)
  | fn hn h ih => intro hf; exact .fn hn fun i d hd => ih i d hd (dryL_get (by simpa [D.dry] using hf) hd)
theorem Rd.up {φ' : Nat → Nat} {M M' : Nat → Prop} {n k : Nat} {d : D} {v : Value} (h : Rd φ M w n d v) (hφ : ∀ b, b < n → φ' (k + b) = φ b) : (d.noro = true ∨ ∀ q, q < w.heap.size → M' q → M q) → Rd φ' M' w (k + n) (d.up k) v := by
  have hc : (∀ q, q < w.heap.size → M' q → M q) → Carry φ φ' M M' w w 0 0 := fun hM => ⟨Nat.le_refl _, fun b hb => absurd hb (Nat.not_lt_zero b), fun _ _ _ => rfl, hM, fun b hb => absurd hb (Nat.not_lt_zero b)⟩
  induction h with
  | int => intro _; exact .int
  | bool => intro _; exact .bool
  | str => intro _; exact .str
  | sc h => intro _; exact .sc h
  | nil => intro _; exact .nil
  | undef => intro _; exact .undef
  | roE h => intro _; exact .roE h
  | ro g h1 h2 h3 h4 h5 h6 h7 h8 =>
    intro hM
    rcases hM with hM | hM
    · simp [D.noro] at hM
    · exact .ro g h1 h2 (fun hk => h3 (hM _ h4 hk)) h4 h5 h6 h7 fun i e j d he hd => (h8 i e j d he hd).move (hc hM) (Nat.le_refl _) (Nat.le_refl _)
  | rp g h1 h2 h3 h4 =>
    intro hM
    rcases hM with hM | hM
    · simp [D.noro] at hM
    · exact .rp g (fun hk => h1 (hM _ h2 hk)) h2 h3 fun i d hd => (h4 i d hd).move (hc hM) (Nat.le_refl _) (Nat.le_refl _)
  | sl k1 k2 k3 k4 k5 =>
    intro _
    have := hφ _ k1
    rw [← this] at k2 ⊢
    exact .sl (by omega) k2 k3 k4 k5
  | ptr k1 => intro _; rw [← hφ _ k1]; exact .ptr (by omega)
  | agg hn h ih =>
    intro hM
    simp only [D.up, upL_map]
    refine .agg (by simpa using hn) fun i d hd => ?_
    rw [List.getElem?_map, Option.map_eq_some_iff] at hd
    obtain ⟨d0, h0, rfl⟩ := hd
    exact ih i d0 h0 hφ (hM.imp (fun hM => noroL_get (by simpa [D.noro] using hM) h0) id)
  | tup hn h ih =>
    intro hM
    simp only [D.up, upL_map]
    refine .tup (by simpa using hn) fun i d hd => ?_
    rw [List.getElem?_map, Option.map_eq_some_iff] at hd
    obtain ⟨d0, h0, rfl⟩ := hd
    exact ih i d0 h0 hφ (hM.imp (fun hM => noroL_get (by simpa [D.noro] using hM) h0) id)
  | fn hn h ih =>
    intro hM
    simp only [D.up, upL_map]
    refine .fn (by simpa using hn) fun i d hd => ?_
    rw [List.getElem?_map, Option.map_eq_some_iff] at hd
    obtain ⟨d0, h0, rfl⟩ := hd
    exact ih i d0 h0 hφ (hM.imp (fun hM => noroL_get (by simpa [D.noro] using hM) h0) id)
theorem lk_ups (k : Nat) : ∀ (l : List Blk) (i q : Nat), lk (ups k i l) q = if k + i ≤ q then l[q - (k + i)]? else none
  | [], i, q => by simp [ups, lk]
  | B :: l, i, q => by
    simp only [ups, lk]
    rw [lk_ups k l (i + 1) q]
    by_cases h : k + i = q
    · rw [if_pos h, if_pos (by omega), show q - (k + i) = 0 by omega]; rfl
    · rw [if_neg h]
      by_cases h2 : k + i ≤ q
      · rw [if_pos h2, if_pos (by omega), show q - (k + i) = q - (k + (i + 1)) + 1 by omega]; rfl
      · rw [if_neg h2, if_neg (by omega)]
theorem lk_append {α : Type} : ∀ (A B : List (Nat × α)) (q : Nat), lk (A ++ B) q = (lk A q).or (lk B q)
  | [], B, q => by simp [lk]
  | (k, x) :: A, B, q => by
    simp only [List.cons_append, lk]
    split
    · simp
    · exact lk_append A B q

theorem GRel.at (hR : Rel C φ s a w) {M' : Nat → Prop} (hM : ∀ k, M' k → C.M k ∨ C.fl ≤ k) : GRel C.G M' w.heap.size w := by
  intro g e hg
  obtain ⟨h1, h2, h3⟩ := hR.G g e hg
  refine ⟨fun hm => ?_, Nat.lt_of_lt_of_le h2 hR.fl, fun φ' => ?_⟩
  · rcases hM g hm with h | h
    · exact h1 h
    · omega
  · exact (h3 φ').move (r := 0) ⟨hR.below.size, fun _ _ _ => rfl, fun k hk hm => hR.below.block k (by
        rcases Nat.lt_or_ge k C.fl with h | h
        · exact h
        · exact absurd (.inr h) hm), fun k _ hm => by
        rcases hm with hm | hm
        · exact hM k hm
        · exact .inr (Nat.le_trans hR.fl hm), fun b hb => absurd hb (Nat.not_lt_zero b)⟩ (Nat.le_refl _) (Nat.le_refl _)

/-- Behind a call that was met by its contract. -/
theorem contract_rel (hE : EnvOk P E) (hR : Rel C φ s a w) (hG : C.G = E.G) {f : FuncId} {ds ds' : List D} {d : D} {ext : List Blk} {vs : Array Value} (hr : reifyL E s ds = some ds') (hc : Contract P E.G f ds' d ext)
    (hin : inRowsL s ds) (hok : D.freeL ds = true ∨ (d.noro = true ∧ ∀ B, B ∈ ext → ∀ e, e ∈ B.els → e.dry = true)) (hvs : Rds φ (Mut C.M φ s.hp) w s.nx ds vs) :
    Calls P f vs w fun e w' => ∃ v φ', e = .returned v ∧ Rel C φ' (s.adds ext) a w' ∧ Rd φ' (Mut C.M φ' (s.adds ext).hp) w' (s.adds ext).nx (d.up s.nx) v := by
  obtain ⟨r1, r2⟩ := reifyL_get hr
  have hloc : ∀ b B, lk s.hp b = some B → φ b < w.heap.size := fun b B hB => by
    obtain ⟨_, _, cs, h⟩ := hR.hp b B hB
    exact (Array.getElem?_eq_some_iff.1 h.heap).1
  have main : ∀ M1 : Nat → Prop, (∀ k, M1 k → Mut C.M φ s.hp k) → (∀ k, C.M k → M1 k) → ((∀ k, Mut C.M φ s.hp k → M1 k) ∨ (d.noro = true ∧ ∀ B, B ∈ ext → ∀ e, e ∈ B.els → e.dry = true)) → Rds φ M1 w 0 ds' vs →
      Calls P f vs w fun e w' => ∃ v φ', e = .returned v ∧ Rel C φ' (s.adds ext) a w' ∧ Rd φ' (Mut C.M φ' (s.adds ext).hp) w' (s.adds ext).nx (d.up s.nx) v := by
    intro M1 hM1 hM2 hM3 hds
    refine (hc.2 M1 w vs φ (fun k hk => ?_) (by rw [← hG]; exact GRel.at hR fun k hk => mut_old hR (hM1 k hk)) hds).mono ?_
    · rcases hM1 k hk with h | ⟨b, B, hB, rfl⟩
      · exact Nat.lt_of_lt_of_le (hR.M k h) hR.fl
      · exact hloc b B hB
    · rintro e w' ⟨v, φ1, rfl, hbel, hex, hinj, hd⟩
      have hlke : ∀ b, lk (ups 0 0 ext) b = ext[b]? := fun b => by rw [lk_ups]; simp
      have hlkn : ∀ q, lk (ups s.nx 0 ext ++ s.hp) q = if s.nx ≤ q then ext[q - s.nx]? else lk s.hp q := fun q => by
        rw [lk_append, lk_ups]
        by_cases h : s.nx ≤ q
        · rw [if_pos (by omega), if_pos h, Nat.add_zero]
          cases hq : ext[q - s.nx]? with
          | some B => rfl
          | none =>
            cases hl : lk s.hp q with
            | none => rfl
            | some B => have := (hR.hp q B hl).1; omega
        · rw [if_neg (by omega), if_neg h]; rfl
      have hφo : ∀ b, b < s.nx → (fun b => if b < s.nx then φ b else φ1 (b - s.nx)) b = φ b := fun b hb => by simp [hb]
      have hφn : ∀ b, (fun b => if b < s.nx then φ b else φ1 (b - s.nx)) (s.nx + b) = φ1 b := fun b => by
        have : ¬ s.nx + b < s.nx := by omega
        simp [this]
      generalize hφ2 : (fun b => if b < s.nx then φ b else φ1 (b - s.nx)) = φ2 at hφo hφn
      have hmn : ∀ k, Mut C.M φ2 (ups s.nx 0 ext ++ s.hp) k → Mut C.M φ s.hp k ∨ ∃ b B, lk (ups 0 0 ext) b = some B ∧ φ1 b = k := fun k hk => by
        rcases hk with hk | ⟨q, B, hq, rfl⟩
        · exact .inl (.inl hk)
        · rw [hlkn] at hq
          split at hq
          · rename_i h
            refine .inr ⟨q - s.nx, B, by rw [hlke]; exact hq, ?_⟩
            rw [← hφn, show s.nx + (q - s.nx) = q by omega]
          · rename_i h
            exact .inl (.inr ⟨q, B, hq, by rw [hφo q (by omega)]⟩)
      have hcy : ∀ n, n ≤ s.nx → Carry φ φ2 (Mut C.M φ s.hp) (Mut C.M φ2 (ups s.nx 0 ext ++ s.hp)) w w' s.nx n := fun n hn =>
        ⟨hbel.size, fun b hb hne => hφo b (by omega), fun k hk _ => hbel.block k hk, fun k hk hm => by
          rcases hmn k hm with h | ⟨b, B, hb, rfl⟩
          · exact h
          · have := (hex b B hb).2.1; omega, fun b hb hne cs e fz hcs => ⟨cs, e, fz, (hbel.block _ (Array.getElem?_eq_some_iff.1 hcs).1).trans hcs, rfl⟩⟩
      refine ⟨v, φ2, rfl, hR.move (hp' := ups s.nx 0 ext ++ s.hp) (nx' := s.nx + ext.length) (hcy _ (Nat.le_refl _)) (Nat.le_add_right _ _) (hbel.mono hR.fl) (fun q B hq => ?_) (fun q q' B B' hq hq' he => ?_), ?_⟩
      · rw [hlkn] at hq
        split at hq
        · rename_i h
          obtain ⟨h1, h2, h3, cs, h4⟩ := hex (q - s.nx) B (by rw [hlke]; exact hq)
          have hφq : φ2 q = φ1 (q - s.nx) := by rw [← hφn, show s.nx + (q - s.nx) = q by omega]
          refine ⟨by omega, by rw [hφq]; exact Nat.le_trans hR.fl h2, cs, ⟨by rw [hφq]; exact h4.heap, h4.size, h4.zs, h4.one, fun i e j x he hx => ?_⟩⟩
          have h5 := h4.rd i e j x he hx
          rw [h3] at h5 ⊢
          rcases hM3 with hM3 | ⟨_, hdry⟩
          · exact h5.move (r := 0) (φ' := φ2) ⟨Nat.le_refl _, fun b hb => absurd hb (Nat.not_lt_zero b), fun _ _ _ => rfl, fun k _ hk => by
              rcases hmn k hk with h | ⟨b, B', hb, rfl⟩
              · exact .inl (hM3 k h)
              · exact .inr ⟨b, B', hb, rfl⟩, fun b hb => absurd hb (Nat.not_lt_zero b)⟩ (Nat.le_refl _) (Nat.le_refl _)
          · exact dry_rd h5 (dry_cells (hdry B (List.mem_of_getElem? hq) e (List.mem_of_getElem? he)) hx)
        · rename_i h
          obtain ⟨h1, h2, cs, h3⟩ := hR.hp q B hq
          refine ⟨by omega, by rw [hφo q h1]; exact h2, cs, h3.move (hcy _ (Nat.le_refl _)) (Nat.le_refl _) (Nat.le_add_right _ _) ?_⟩
          rw [hφo q h1]
          exact hbel.block _ (hloc q B hq)
      · rw [hlkn] at hq hq'
        have hq1 : s.nx ≤ q → φ2 q = φ1 (q - s.nx) := fun h => by rw [← hφn, show s.nx + (q - s.nx) = q by omega]
        have hq2 : s.nx ≤ q' → φ2 q' = φ1 (q' - s.nx) := fun h => by rw [← hφn, show s.nx + (q' - s.nx) = q' by omega]
        split at hq <;> split at hq'
        · rename_i h h'
          rw [hq1 h, hq2 h'] at he
          have := hinj _ _ B B' (by rw [hlke]; exact hq) (by rw [hlke]; exact hq') he
          omega
        · rename_i h h'
          rw [hq1 h, hφo q' (by omega)] at he
          have h1 := (hex _ B (by rw [hlke]; exact hq)).2.1
          have h2 := hloc q' B' hq'
          omega
        · rename_i h h'
          rw [hq2 h', hφo q (by omega)] at he
          have h1 := (hex _ B' (by rw [hlke]; exact hq')).2.1
          have h2 := hloc q B hq
          omega
        · rename_i h h'
          rw [hφo q (by omega), hφo q' (by omega)] at he
          exact hR.inj q q' B B' hq hq' he
      · show Rd φ2 (Mut C.M φ2 (ups s.nx 0 ext ++ s.hp)) w' (s.nx + ext.length) (d.up s.nx) v
        refine hd.up (fun b hb => hφn b) ?_
        rcases hM3 with hM3 | hM3
        · refine .inr fun k _ hk => ?_
          rcases hmn k hk with h | ⟨b, B', hb, rfl⟩
          · exact .inl (hM3 k h)
          · exact .inr ⟨b, B', hb, rfl⟩
        · exact .inl hM3.1
  rcases hok with hok | hok
  · refine main (Mut C.M φ s.hp) (fun _ h => h) (fun _ h => .inl h) (.inl fun _ h => h) ⟨by rw [hvs.1, r1], fun i d' hd' => ?_⟩
    obtain ⟨d0, h1, h2⟩ := r2 i d' hd'
    exact reify_free (hvs.2 i d0 h1) (freeL_get hok h1) d' h2
  · refine main C.M (fun _ h => .inl h) (fun _ h => h) (.inr hok) ⟨by rw [hvs.1, r1], fun i d' hd' => ?_⟩
    obtain ⟨d0, h1, h2⟩ := r2 i d' hd'
    exact reify_rd hE hR (hvs.2 i d0 h1) (inRowsL_get hin h1) d' C.M (fun _ h => h) h2

theorem good_enter {f : FuncId} {vs : Array Value} (hrun : (execOp a.eval o).run P w = .ok (.enter f vs) w)
    (hc : Calls P f vs w fun e w' => ∃ v φ' s', e = .returned v ∧ Rel C φ' s' (a.put o.dst v) w' ∧ K s') : Good P C o a w K := by
  intro next Q hn
  unfold Oper.wp
  rw [hrun, Oper.upon_enter]
  refine hc.mono ?_
  rintro e w' ⟨v, φ', s', rfl, h1, h2⟩
  exact hn _ _ _ _ h1 h2
theorem good_call (hE : EnvOk P E) (hR : Rel C φ s a w) (hG : C.G = E.G) {f : FuncId} {ds : List D} {vs : Array Value} (hvs : Rds φ (Mut C.M φ s.hp) w s.nx ds vs) (h : callE E f ds s (retK o.dst K))
    (hrun : (execOp a.eval o).run P w = ((callFunc f vs).run P w)) : Good P C o a w K := by
  rcases h with h | h
  · split at h
    · rename_i ds' hr
      obtain ⟨d, ext, hc, hp, hk⟩ := h
      rw [hE.F] at hc hp
      have hc : Contract P E.G f ds' d ext := hc
      simp only [fns] at hp
      rw [hc.1 vs w] at hrun
      refine good_enter hrun ((contract_rel hE hR hG hr hc hp.1 hp.2 hvs).mono ?_)
      rintro e w' ⟨v, φ', rfl, h1, h2⟩
      exact ⟨v, φ', _, rfl, h1.put o.dst h2, hk⟩
    · exact h.elim
  · rw [hE.F] at h
    have h : ICall P E.G f ds s (retK o.dst K) := h
    rw [h.1 vs w] at hrun
    refine good_enter hrun ((h.2 C φ a w vs hG hR hvs).1.mono ?_)
    rintro e w' ⟨v, d, φ', s', rfl, h1, h2, h3⟩
    exact ⟨v, φ', _, rfl, h1.put o.dst h2, h3⟩
end Go.Proofs.YtppmomobjjpljaaDoor.E
end

/- Part KE11a. -/
section
/- A calculus for Go functions over an abstract memory (part 11a): slices as arrays, slices held against nil, copy, clear. Conditions: those of each theorem. -/
namespace Go.Proofs.YtppmomobjjpljaaDoor.E
open Go Go.RowKit
set_option linter.unusedVariables false
set_option linter.unusedSimpArgs false
variable {P : Program} {E : Env} {φ : Nat → Nat} {w : World} {C : Ctx} {s : St} {a : Act} {o : Oper} {K : St → Prop}
theorem toArray_rd {T e len n : Nat} {l ds : List D} {M : Nat → Prop} {v : Value} (hu : P.underlying T = some (.array len e)) (hd : Rd φ M w n (.ro l) v) (hlen : 0 < len) (hle : len ≤ l.length) (ht : l.take len = ds) (hone : ∀ d, d ∈ l → d.cells = [d]) :
    ∃ u, (Instr.arrayAt T v).run P w = .ok u w ∧ Rd φ M w n (.rp (.agg ds) 0) u := by
  cases hd with
  | roE _ => simp at hle; omega
  | @ro _ _ k oo z c g k1 k2 k3 k4 k5 k6 k7 k8 =>
    have hz : z = 1 := by
      obtain ⟨x, hx⟩ : ∃ x, l[0]? = some x := ⟨_, List.getElem?_eq_getElem (by omega)⟩
      have h1 := k5 x (List.mem_of_getElem? hx)
      rw [hone x (List.mem_of_getElem? hx)] at h1
      simpa using h1.symm
    subst hz
    refine ⟨.pointer (some ⟨k, oo + 0, none⟩), ?_, .rp (o := oo) g k3 k4 (fun i d hi => ?_) (fun i d hi => ?_)⟩
    · simp [Instr.arrayAt, run_underlying hu, show ¬ l.length < len by omega]
    · have hi : ds[i]? = some d := hi
      rw [← ht] at hi
      have hi2 : l[i]? = some d := by
        rw [List.getElem?_take] at hi
        split at hi
        · exact hi
        · cases hi
      have := k6 i d 0 d hi2 (by rw [hone d (List.mem_of_getElem? hi2)]; rfl)
      simpa using this
    · have hi : ds[i]? = some d := hi
      rw [← ht] at hi
      have hi2 : l[i]? = some d := by
        rw [List.getElem?_take] at hi
        split at hi
        · exact hi
        · cases hi
      have := k8 i d 0 d hi2 (by rw [hone d (List.mem_of_getElem? hi2)]; rfl)
      simp only [Nat.mul_one, Nat.add_zero] at this
      exact this.move (r := 0) ⟨Nat.le_refl _, fun b hb => absurd hb (Nat.not_lt_zero b), fun _ _ _ => rfl, fun _ _ h => h, fun b hb => absurd hb (Nat.not_lt_zero b)⟩ (Nat.le_refl _) (Nat.le_refl _)
theorem run_nil_cmp (w : World) (t e : TypeId) (x : Option Addr) (n c n' c' : Nat) (h : P.underlying t = some (.slice e)) :
    (binOp .eql t (.slice x n c) (.slice none n' c')).run P w = .ok (.bool x.isNone) w ∧ (binOp .neq t (.slice x n c) (.slice none n' c')).run P w = .ok (.bool (!x.isNone)) w := by
  refine ⟨Lib.run_eql_slice_nil w t e x n c n' c' h, ?_⟩
  have := Lib.run_eql_slice_nil w t e x n c n' c' h
  simp only [binOp] at this ⊢
  generalize hq : (Op.equal t (.slice x n c) (.slice none n' c')).run P w = r at this
  cases r with
  | ok b w2 =>
    simp [hq] at this ⊢
    exact ⟨by rw [this.1], this.2⟩
  | halt y w2 => simp [hq, Result.andThen] at this
theorem nilE_rd (hE : EnvOk P E) {op : BinOp} {T T' : TypeId} {x : D} {vx : Value} {n c : Nat} {K : D → Prop} {X : Operand} (h : nilE E op T x K) (hx : Rd φ (Mut C.M φ s.hp) w s.nx x vx) :
    Gives P C φ s w (do eqGuard op T X (.const (.slice none n c)) vx (a.eval (.const (.slice none n c))); binOp op T vx (a.eval (.const (.slice none n c)))) K := by
  have hev : a.eval (.const (.slice none n c)) = .slice none n c := rfl
  rw [hev]
  unfold nilE at h
  split at h
  · rename_i e z by_ dz hk
    obtain ⟨hu, _⟩ := kd_slice (hE.kd hk)
    have key : ∀ (ad : Option Addr) (m cc : Nat) (b : Bool), vx = .slice ad m cc → (op = .eql ∧ b = ad.isNone ∨ op = .neq ∧ b = !ad.isNone) → K (.bool b) → Gives P C φ s w (do eqGuard op T X (.const (.slice none n c)) vx (.slice none n c); binOp op T vx (.slice none n c)) K := by
      intro ad m cc b he hb hk
      subst he
      obtain ⟨r1, r2⟩ := run_nil_cmp (P := P) w T _ ad m cc n c hu
      refine ⟨.bool b, .bool b, ?_, .bool, hk⟩
      rcases hb with ⟨rfl, rfl⟩ | ⟨rfl, rfl⟩
      · simp [eqGuard, r1]
      · simp [eqGuard, r2]
    split at h
    · cases hx; exact key _ _ _ _ rfl (.inl ⟨rfl, rfl⟩) h
    · cases hx; exact key _ _ _ _ rfl (.inr ⟨rfl, rfl⟩) h
    · rename_i l
      obtain ⟨h1, h2⟩ := h
      cases hx with
      | roE _ =>
        rename_i ad cc _
        cases ad with
        | none => exact key _ _ _ _ rfl (.inl ⟨rfl, rfl⟩) (h2 rfl).1
        | some ad => exact key _ _ _ _ rfl (.inl ⟨rfl, rfl⟩) (h2 rfl).2
      | ro g k1 k2 k3 k4 k5 k6 k7 k8 =>
        by_cases hl : l = []
        · exact key _ _ _ _ rfl (.inl ⟨rfl, rfl⟩) (h2 hl).2
        · exact key _ _ _ _ rfl (.inl ⟨rfl, rfl⟩) (h1 hl)
    · rename_i l
      obtain ⟨h1, h2⟩ := h
      cases hx with
      | roE _ =>
        rename_i ad cc _
        cases ad with
        | none => exact key _ _ _ _ rfl (.inr ⟨rfl, rfl⟩) (h2 rfl).2
        | some ad => exact key _ _ _ _ rfl (.inr ⟨rfl, rfl⟩) (h2 rfl).1
      | ro g k1 k2 k3 k4 k5 k6 k7 k8 =>
        by_cases hl : l = []
        · exact key _ _ _ _ rfl (.inr ⟨rfl, rfl⟩) (h2 hl).1
        · exact key _ _ _ _ rfl (.inr ⟨rfl, rfl⟩) (h1 hl)
    · cases hx
      rename_i ad
      cases ad with
      | none => exact key _ _ _ _ rfl (.inl ⟨rfl, rfl⟩) h.1
      | some ad => exact key _ _ _ _ rfl (.inl ⟨rfl, rfl⟩) h.2
    · cases hx
      rename_i ad
      cases ad with
      | none => exact key _ _ _ _ rfl (.inr ⟨rfl, rfl⟩) h.2
      | some ad => exact key _ _ _ _ rfl (.inr ⟨rfl, rfl⟩) h.1
    · exact h.elim
  · exact h.elim
theorem size_one {e : TypeId} {ti : TypeInfo} (h : P.info? e = some ti) (hs : ti.size = 1) : (P.info? e).map (·.size) = some 1 := by rw [h]; simp [hs]
theorem splice_any {α : Type} (cs vs : List α) (o q : Nat) (h : o + vs.length ≤ cs.length) : (cs.take o ++ vs ++ cs.drop (o + vs.length))[q]? = if o ≤ q ∧ q < o + vs.length then vs[q - o]? else cs[q]? := by
  have hto : (cs.take o).length = o := by simp; omega
  by_cases h1 : q < o
  · rw [if_neg (by omega), List.append_assoc, List.getElem?_append_left (by omega), List.getElem?_take_of_lt h1]
  · by_cases h2 : q < o + vs.length
    · rw [if_pos (by omega), List.getElem?_append_left (by simp; omega), List.getElem?_append_right (by omega), hto]
    · rw [if_neg (by omega), List.getElem?_append_right (by simp; omega), List.getElem?_drop]
      congr 1
      simp
      omega
/-- Cells of a row, written over. -/
theorem row_over (hR : Rel C φ s a w) {b : Nat} {B : Blk} {cs : Array Value} {i : Nat} {xs : List D} {news : List Value} {els' : List D} (hb : lk s.hp b = some B) (hB : BRel φ (Mut C.M φ s.hp) w s.nx b B cs) (hz : B.z = 1) (hf : B.flat = true)
    (hle : i + xs.length ≤ B.els.length) (hl : news.length = xs.length) (hone : ∀ u ∈ news, u.oneCell' = true) (hxs : ∀ d, d ∈ xs → d.cells.length = 1) (hrd : ∀ k e j d, xs[k]? = some e → e.cells[j]? = some d → Rd φ (Mut C.M φ s.hp) w 0 d (news.getD (k * 1 + j) undef))
    (hels : els' = B.els.take i ++ xs ++ B.els.drop (i + xs.length)) :
    Rel C φ { s with hp := hset s.hp b { B with els := els' } } a (w.setRow (φ b) (cs.toList.take i ++ news ++ cs.toList.drop (i + news.length)).toArray) := by
  have hsz := hB.size
  rw [hz, Nat.mul_one] at hsz
  have hlen : (cs.toList.take i ++ news ++ cs.toList.drop (i + news.length)).length = cs.size := by simp; omega
  have hel : els'.length = B.els.length := by rw [hels]; simp; omega
  refine hR.store (B := B) (B' := { B with els := els' }) (cs := cs) hb hB rfl rfl (by simpa using hlen) (by show els'.length * B.z ≤ _; rw [hel, hz, Nat.mul_one]; simp at hlen ⊢; omega) (fun e he => ?_) (fun v hv => ?_) (fun k e j d he hd => ?_)
  · show e.cells.length = B.z
    rw [hz]
    have he : e ∈ els' := he
    rw [hels] at he
    rcases List.mem_append.1 he with h | h
    · rcases List.mem_append.1 h with h | h
      · exact (hB.zs e (List.mem_of_mem_take h)).trans hz
      · exact hxs e h
    · exact (hB.zs e (List.mem_of_mem_drop h)).trans hz
  · have hv : v ∈ cs.toList.take i ++ news ++ cs.toList.drop (i + news.length) := by simpa using hv
    rcases List.mem_append.1 hv with h | h
    · rcases List.mem_append.1 h with h | h
      · exact hB.one v (by simpa using List.mem_of_mem_take h)
      · exact hone v h
    · exact hB.one v (by simpa using List.mem_of_mem_drop h)
  · show Rd φ (Mut C.M φ s.hp) w (if B.flat then 0 else s.nx) d (((cs.toList.take i ++ news ++ cs.toList.drop (i + news.length)).toArray).getD (k * B.z + j) undef)
    have he : els'[k]? = some e := he
    have hej : e.cells.length = 1 := by
      have hm := List.mem_of_getElem? he
      rw [hels] at hm
      rcases List.mem_append.1 hm with h | h
      · rcases List.mem_append.1 h with h | h
        · exact (hB.zs e (List.mem_of_mem_take h)).trans hz
        · exact hxs e h
      · exact (hB.zs e (List.mem_of_mem_drop h)).trans hz
    have hj : j = 0 := by have := (List.getElem?_eq_some_iff.1 hd).1; omega
    subst hj
    rw [hels, splice_any _ _ _ _ hle] at he
    rw [getD_toArray, List.getD_eq_getElem?_getD, hz, splice_get _ _ _ _ (by simp; omega)]
    rw [hl, hf]
    simp only [Nat.mul_one, Nat.add_zero, if_true]
    split at he
    · rename_i hc
      rw [if_pos hc]
      have := hrd (k - i) e 0 d he hd
      simpa [List.getD_eq_getElem?_getD] using this
    · rename_i hc
      rw [if_neg hc]
      have := hB.rd k e 0 d he hd
      rw [hz, hf] at this
      simpa [Array.getD_eq_getD_getElem?] using this
theorem good_copy (hE : EnvOk P E) (hR : Rel C φ s a w) {T T' : TypeId} {x y : D} {vx vy : Value} (h : copyE E T s o.dst x y K) (hx : Rd φ (Mut C.M φ s.hp) w s.nx x vx) (hy : Rd φ (Mut C.M φ s.hp) w s.nx y vy)
    (hrun : (execOp a.eval o).run P w = ((Builtin.copy_ #[T, T'] o.type #[vx, vy]).run P w).andThen fun v w' => .ok (.value v) w') : Good P C o a w K := by
  unfold copyE at h
  split at h
  · rename_i e z by_ dz b z' i n hk
    split at h
    · rename_i B hB
      split at h
      · rename_i xs hl
        split at h
        · rename_i hc
          obtain ⟨rfl, rfl, hBz, hBf⟩ := hc
          rw [hE.F] at h
          obtain ⟨⟨hin, hry, hone⟩, hK⟩ := h
          obtain ⟨hu, ti, v, h1, h2, h3, h4, h5, h6, h7, h8, h9, h10⟩ := kd_slice (hE.kd hk)
          obtain ⟨hbn, hfl, cs, hB2⟩ := hR.hp b B hB
          cases hx with
          | @sl _ _ _ _ _ c cs' e' fz k1 k2 k3 k4 k5 =>
            rw [hB2.heap] at k2
            cases k2
            have hsz := hB2.size
            rw [hBz, Nat.mul_one] at hsz
            have fin : ∀ (news : List Value), news.length = Nat.min xs.length n → (∀ u ∈ news, u.oneCell' = true) → (∀ k e j d, (xs.take n)[k]? = some e → e.cells[j]? = some d → Rd φ (Mut C.M φ s.hp) w 0 d (news.getD (k * 1 + j) undef)) →
                (Builtin.copy_ #[T, T'] o.type #[.slice (some ⟨φ b, i * 1, none⟩) n c, vy]).run P w = .ok (goInt news.length) (w.setRow (φ b) (cs.toList.take (i * 1) ++ news ++ cs.toList.drop (i * 1 + news.length)).toArray) → Good P C o a w K := by
              intro news hnl hno hnr hr
              have hmin : min n xs.length = (xs.take n).length := by simp
              have := row_over (i := i) (xs := xs.take n) (news := news) (els' := cpyL B.els i n xs) hR hB hB2 hBz hBf (by simp; omega) (by rw [hnl, List.length_take]; exact Nat.min_comm _ _) hno (fun d hd => hone d (List.mem_of_mem_take hd)) hnr (by rw [cpyL, hmin])
              rw [Nat.mul_one] at hr hrun
              rw [hr] at hrun
              refine good_val hrun (this.put o.dst (d := .int .i64 (E.F.nat (E.F.mn n (E.F.len xs)))) ?_) ?_
              · rw [hE.F]
                have : goInt news.length = .int .i64 (Int.ofNat (Nat.min n xs.length)) := by rw [hnl, goInt, show Nat.min xs.length n = Nat.min n xs.length from Nat.min_comm _ _]; rfl
                rw [this]
                exact .int
              · simp only [hE.F] at hK ⊢
                exact hK
            rcases src_rd hE hR (Nat.succ_pos 0) hl hry hone hy with ⟨rfl, aa, cc, rfl⟩ | ⟨ad, cc, news, rfl, hs⟩
            · refine fin [] (by simp) (by simp) (fun k e j d hk _ => by simp at hk) ?_
              have hsame : (cs.toList.take (i * 1) ++ [] ++ cs.toList.drop (i * 1 + ([] : List Value).length)).toArray = cs := by simp
              rw [hsame, setRow_self w (φ b) cs _ _ hB2.heap]
              cases aa with
              | none => simp [Builtin.copy_, run_underlying hu, Builtin.lenOf, Builtin.firstCells, sizeOf, typeInfo, h1, storeCells]
              | some ad => simp [Builtin.copy_, run_underlying hu, Builtin.lenOf, Builtin.firstCells, sizeOf, typeInfo, h1, storeCells, run_loadCells_list (P := P) w ad [] (by simp), show Nat.min 0 n = 0 from Nat.zero_min _]; rfl
            · have hnl : (news.take (Nat.min xs.length n)).length = Nat.min xs.length n := by
                have := hs.len
                rw [List.length_take]
                have h0 : Nat.min xs.length n ≤ xs.length := Nat.min_le_left _ _
                omega
              refine fin (news.take (Nat.min xs.length n)) hnl (fun u hu => hs.one u (List.mem_of_mem_take hu)) (fun k e j d hk hd => ?_) ?_
              · rw [List.getElem?_take] at hk
                split at hk
                · rename_i hkn
                  have hkx : k < xs.length := (List.getElem?_eq_some_iff.1 hk).1
                  have hj : j = 0 := by
                    have := (List.getElem?_eq_some_iff.1 hd).1
                    have := hone e (List.mem_of_getElem? hk)
                    omega
                  subst hj
                  have := hs.rd k e 0 d hk hd
                  rw [List.getD_eq_getElem?_getD] at this ⊢
                  rw [List.getElem?_take_of_lt (by
                    have : k < Nat.min xs.length n := by
                      show k < min xs.length n
                      omega
                    omega)]
                  exact this
                · cases hk
              · refine run_copy_row P w T T' o.type e (φ b) (i * 1) n c ad xs.length cc cs _ (news.take (Nat.min xs.length n)) hu (size_one h1 h3) hB2.heap hnl (fun j v hj => ?_) ?_ (fun v hv => hs.one v (List.mem_of_mem_take hv))
                · rw [List.getElem?_take] at hj
                  split at hj
                  · exact hs.cell j v hj
                  · cases hj
                · rw [hnl]
                  have h0 : Nat.min xs.length n ≤ n := Nat.min_le_right _ _
                  omega
        · exact h.elim
      · exact h.elim
    · exact h.elim
  · exact h.elim
theorem good_clear (hE : EnvOk P E) (hR : Rel C φ s a w) {T : TypeId} {x : D} {vx : Value} (h : clearE E T s o.dst x K) (hx : Rd φ (Mut C.M φ s.hp) w s.nx x vx)
    (hrun : (execOp a.eval o).run P w = ((Builtin.clear_ #[T] o.type #[vx]).run P w).andThen fun v w' => .ok (.value v) w') : Good P C o a w K := by
  have tupR : ∀ {φ : Nat → Nat} {M : Nat → Prop} {w : World} {n : Nat}, Rd φ M w n (.tup []) (.tuple #[]) := fun {φ M w n} => .tup rfl fun i d hd => by simp at hd
  have none_ : ∀ aa cc, vx = .slice aa 0 cc → (∃ e, P.underlying T = some (.slice e)) → K (s.set o.dst (.tup [])) → Good P C o a w K := fun aa cc he ⟨e, hu⟩ hK => by
    subst he
    refine good_still hR (v := .tuple #[]) ?_ tupR hK
    rw [hrun]
    cases aa <;> simp [Builtin.clear_, run_underlying hu]
  unfold clearE at h
  split at h
  · rename_i e z by_ dz b z' i n hk
    split at h
    · rename_i B hB
      split at h
      · rename_i hc
        obtain ⟨rfl, rfl, hBz, hBf⟩ := hc
        rw [hE.F] at h
        obtain ⟨⟨hin, hfree⟩, hK⟩ := h
        obtain ⟨hu, ti, v, h1, h2, h3, h4, h5, h6, h7, h8, h9, h10⟩ := kd_slice (hE.kd hk)
        obtain ⟨hbn, hfl, cs, hB2⟩ := hR.hp b B hB
        cases hx with
        | @sl _ _ _ _ _ c cs' e' fz k1 k2 k3 k4 k5 =>
          rw [hB2.heap] at k2
          cases k2
          have hsz := hB2.size
          rw [hBz, Nat.mul_one] at hsz
          obtain ⟨t1, t2⟩ := tells_of (h10 φ (Mut C.M φ s.hp) w 0) h8
          have hv1 : v.cells.toList.length = 1 := by simpa using h6
          obtain ⟨u, hu1⟩ := List.length_eq_one_iff.1 hv1
          have hd1 : dz.cells.length = 1 := h7
          have hrowz := row_zero (M := Mut C.M φ s.hp) (n := 0) (z := 1) (k := n) (c := n) (h10 φ (Mut C.M φ s.hp) w 0) h8 h7 (Nat.le_refl _)
          have hmk : (Builtin.zeroCells v.cells n).toList.length = n := by rw [zeroCells_made]; simp [size_madeCells, h6]
          have hrel := row_over (i := i) (xs := List.replicate n dz) (news := (Builtin.zeroCells v.cells n).toList) (els' := clrL B.els i n dz) hR hB hB2 hBz hBf (by simp; omega) (by rw [hmk]; simp) (fun u hu => by
              rw [zeroCells_made, h6] at hu
              exact hrowz.one u (by simpa using hu)) (fun d hd => by rw [(List.mem_replicate.1 hd).2]; exact h7) (fun k e j d hk hd => by
              have := hrowz.rd k e j d hk hd
              rw [zeroCells_made, h6]
              rw [List.getD_eq_getElem?_getD]
              rw [Array.getD_eq_getD_getElem?] at this
              simpa using this) (by rw [clrL]; simp)
          have hst := run_storeCells_at P (φ b) (i * 1) B.ty (Builtin.zeroCells v.cells n).toList 0 cs w hB2.heap (by rw [hmk]; omega) (fun u hu => by
              rw [zeroCells_made, h6] at hu
              exact hrowz.one u (by simpa using hu))
          refine good_val (v := .tuple #[]) (w' := w.setRow (φ b) (cs.toList.take i ++ (Builtin.zeroCells v.cells n).toList ++ cs.toList.drop (i + (Builtin.zeroCells v.cells n).toList.length)).toArray) ?_ (hrel.put o.dst (d := .tup []) tupR) (by simp only [fns] at hK; exact hK)
          rw [hrun]
          rcases Nat.eq_zero_or_pos n with rfl | hpos
          · have h0 : (Builtin.zeroCells v.cells 0).toList = [] := List.length_eq_zero_iff.1 hmk
            rw [h0]
            simp only [List.append_nil, List.length_nil, Nat.add_zero, List.take_append_drop, Array.toArray_toList]
            rw [setRow_self w (φ b) cs _ _ hB2.heap]
            simp [Builtin.clear_, run_underlying hu]
          · obtain ⟨q, rfl⟩ : ∃ q, n = q + 1 := ⟨n - 1, by omega⟩
            simp only [Nat.mul_one, Nat.add_zero] at hst
            simp [Builtin.clear_, run_underlying hu, run_zeroP h1 h2, hst]
      · exact h.elim
    · exact h.elim
  · rename_i hk
    rw [hE.F] at h
    obtain ⟨rfl, hK⟩ := h
    obtain ⟨hu, _⟩ := kd_slice (hE.kd hk)
    cases hx with
    | roE _ => exact none_ _ _ rfl ⟨_, hu⟩ hK
    | ro g k1 k2 k3 k4 k5 k6 k7 k8 => exact none_ _ _ rfl ⟨_, hu⟩ hK
  · rename_i hk
    obtain ⟨hu, _⟩ := kd_slice (hE.kd hk)
    cases hx
    exact none_ _ _ rfl ⟨_, hu⟩ h
  · exact h.elim
end Go.Proofs.YtppmomobjjpljaaDoor.E
end

/- Part KE12. -/
section
/- A calculus for Go functions over an abstract memory (part 12): operations, code, functions: wpE is sound. Conditions: those of each theorem. -/
namespace Go.Proofs.YtppmomobjjpljaaDoor.E
open Go Go.RowKit
set_option linter.unusedVariables false
set_option linter.unusedSimpArgs false
variable {P : Program} {E : Env} {φ : Nat → Nat} {w : World} {C : Ctx} {s : St} {a : Act} {o : Oper} {K : St → Prop}

theorem gives_good (hR : Rel C φ s a w) {e : Sem Value} (hrun : (execOp a.eval o).run P w = (e.run P w).andThen fun v w' => .ok (.value v) w') (h : Gives P C φ s w e fun d => K (s.set o.dst d)) : Good P C o a w K := by
  obtain ⟨v, d, h1, h2, h3⟩ := h
  rw [h1] at hrun
  exact good_still hR hrun h2 h3
theorem pointer_rd {M : Nat → Prop} {n b z i j : Nat} {v : Value} (h : Rd φ M w n (.ptr b z i j) v) : v = .pointer (some ⟨φ b, i * z + j, none⟩) := by cases h; rfl
theorem parts_map (ps : Array (Nat × Operand)) (f : Operand → Value) : ps.map (fun x => match x with | (i, y) => (i, f y)) = (ps.toList.map fun x => (x.1, f x.2)).toArray := by
  apply Array.ext'
  simp
set_option maxHeartbeats 1000000 in
theorem opE_good (hE : EnvOk P E) (hR : Rel C φ s a w) (hG : C.G = E.G) (h : opE E o.op o.dst s K) : Good P C o a w K := by
  obtain ⟨dst, op, ty, pos, after, guard⟩ := o
  have hvs : ∀ {l : List Operand} {ds : List D}, opnds E.G s l = some ds → Rds φ (Mut C.M φ s.hp) w s.nx ds (l.map a.eval).toArray := fun h => opnds_rd hR hG h
  cases op with
  | move x => exact good_move hR hG rfl h
  | assign x => exact good_move hR hG rfl h
  | pick c x y =>
    simp only [opE] at h
    obtain ⟨d, h1, h⟩ := getE_inv h
    have hd := opnd_rd hR hG h1
    split at h
    · have hb := rd_bool hd
      split at h
      · obtain ⟨d2, h2, h⟩ := getE_inv h
        exact good_still hR (v := a.eval x) (by simp [execOp, hb, asBool]) (opnd_rd hR hG h2) h
      · obtain ⟨d2, h2, h⟩ := getE_inv h
        exact good_still hR (v := a.eval y) (by simp [execOp, hb, asBool]) (opnd_rd hR hG h2) h
    · exact h.elim
  | alloc T =>
    simp only [opE] at h
    split at h
    · rename_i z hz
      obtain ⟨i, v, h1, h2, h3, h4, h5⟩ := zero_rd (hE.zero hz)
      refine good_new hR T (h5 _ _ _ _) h3 ?_ h
      simp [execOp, Instr.alloc, run_zeroP h1 h2, newVar, newRow]
    · exact h.elim
  | box T x =>
    simp only [opE] at h
    obtain ⟨d, h1, h⟩ := getE_inv h
    split at h
    · rename_i h2
      refine good_new hR T (opnd_rd hR hG h1) h2 ?_ h
      simp [execOp, Instr.box, newVar, newRow]
    · exact h.elim
  | build T ps =>
    simp only [opE] at h
    obtain ⟨ps', h1, h⟩ := partsK_inv h
    refine gives_good hR ?_ (buildE_rd hE hR hG h1 h)
    rw [← parts_map]
    simp [execOp]
  | buildSlice T n ps =>
    simp only [opE] at h
    obtain ⟨ps', h1, h⟩ := partsK_inv h
    refine good_buildSlice hE hR hG h1 h ?_
    rw [← parts_map]
    simp [execOp]
  | load T x =>
    simp only [opE] at h
    obtain ⟨p, h1, h⟩ := getE_inv h
    have hp := opnd_rd hR hG h1
    unfold loadE at h
    split at h
    · rename_i g n hsz
      obtain ⟨e, j, q, o', h2, h3, h4⟩ := elem_rd hR h hp
      split at h2
      · rename_i d hd
        obtain ⟨v, h5, h6⟩ := load_rd (hE.sz hsz) hd h4
        refine good_still hR (v := v) ?_ h6 h2
        simp [execOp, h3, Instr.loadAt, Instr.sureAddr, h5]
      · exact h2.elim
    · exact h.elim
  | store T x y =>
    simp only [opE] at h
    obtain ⟨p, h1, h⟩ := getE_inv h
    obtain ⟨d, h2, h⟩ := getE_inv h
    obtain ⟨w', s', h3, h4, h5⟩ := store_rd hE hR h (opnd_rd hR hG h1) (opnd_rd hR hG h2)
    refine good_skip (w' := w') ?_ (h4.put dst .undef) h5
    simp [execOp, h3]
  | nilCheck x =>
    simp only [opE] at h
    obtain ⟨d, h1, h⟩ := getE_inv h
    have hd := opnd_rd hR hG h1
    split at h
    · refine good_still hR (v := a.eval x) ?_ hd h
      have := pointer_rd hd
      simp [execOp, this]
    · refine good_still hR (v := a.eval x) ?_ hd h
      generalize hv : a.eval x = vx at hd
      cases hd
      simp [execOp, hv]
    · refine good_still hR (v := a.eval x) ?_ hd h
      generalize hv : a.eval x = vx at hd
      cases hd
      simp [execOp, hv]
    · exact h.elim
  | sliceToArrayPointer T x =>
    simp only [opE] at h
    obtain ⟨d, h1, h⟩ := getE_inv h
    have hd := opnd_rd hR hG h1
    split at h
    · rename_i len g n l hk
      obtain ⟨ds, hp, h⟩ := h
      rw [hE.F] at hp
      obtain ⟨n1, hlen, hle, htake, hone⟩ := hp
      obtain ⟨v, hv, hr⟩ := toArray_rd (kd_array (hE.kd hk)).choose_spec.1 hd hlen hle htake hone
      refine good_still hR (v := v) ?_ hr h
      simp [execOp, hv]
    · exact h.elim
  | binOp op T x y T' =>
    simp only [opE] at h
    split at h
    · rename_i hn
      obtain ⟨d1, h1, h⟩ := getE_inv h
      obtain ⟨nn, nc, rfl⟩ : ∃ n c, y = .const (.slice none n c) := by
        unfold nilC at hn
        split at hn
        · exact ⟨_, _, rfl⟩
        · cases hn
      refine gives_good hR ?_ (nilE_rd (a := a) (X := x) (T' := T') (n := nn) (c := nc) hE h (opnd_rd hR hG h1))
      simp [execOp]
      generalize Sem.run P (eqGuard op T x (.const (.slice none nn nc)) (a.eval x) (a.eval (.const (.slice none nn nc)))) w = r
      cases r <;> rfl
    obtain ⟨d1, h1, h⟩ := getE_inv h
    obtain ⟨d2, h2, h⟩ := getE_inv h
    refine gives_good hR ?_ (binE_rd (X := x) (Y := y) (T' := T') hE h (opnd_rd hR hG h1) (opnd_rd hR hG h2))
    simp [execOp]
    generalize Sem.run P (eqGuard op T x y (a.eval x) (a.eval y)) w = r
    cases r <;> rfl
  | unOp op T x =>
    simp only [opE] at h
    obtain ⟨d1, h1, h⟩ := getE_inv h
    refine gives_good hR ?_ (unE_rd hE h (opnd_rd hR hG h1))
    simp [execOp]
  | convert S T x =>
    simp only [opE] at h
    obtain ⟨d1, h1, h⟩ := getE_inv h
    refine gives_good hR ?_ (convE_rd hE h (opnd_rd hR hG h1))
    simp [execOp]
  | makeFunc fn first caps =>
    cases fn with
    | func f =>
      simp only [opE] at h
      split at h
      · rename_i hf
        obtain ⟨ds, h1, h⟩ := getsE_inv h
        have hf : first = #[] := by apply Array.ext'; simpa using hf
        subst hf
        have := hvs h1
        refine good_still hR (v := .func (.func f) #[] (caps.map a.eval)) ?_ (.fn (by have := this.1; simpa using this) fun i d hd => ?_) h
        · simp [execOp, Instr.makeFunc]
        · have := this.2 i d hd
          rw [Array.getD_eq_getD_getElem?] at this ⊢
          simpa using this
      · exact h.elim
    | _ => exact h.elim
  | makeSlice T n c =>
    simp only [opE] at h
    obtain ⟨d1, h1, h⟩ := getE_inv h
    obtain ⟨d2, h2, h⟩ := getE_inv h
    refine good_make hE hR h (opnd_rd hR hG h1) (opnd_rd hR hG h2) ?_
    simp [execOp]
  | slice T x lo hi mx =>
    cases mx with
    | none =>
      simp only [opE] at h
      obtain ⟨d1, h1, h⟩ := getE_inv h
      refine gives_good hR ?_ (sliceE_rd hE hR hG h (opnd_rd hR hG h1))
      simp [execOp]
    | some m => exact h.elim
  | fieldAddr T x f =>
    simp only [opE] at h
    obtain ⟨d1, h1, h⟩ := getE_inv h
    have hd := opnd_rd hR hG h1
    split at h
    · rename_i off g n hf
      split at h
      · generalize hv : a.eval x = vx at hd
        cases hd with
        | ptr k1 =>
          refine good_still hR ?_ (.ptr k1) h
          simp [execOp, hv, run_fieldAt (hE.fld hf), Nat.add_assoc]
      · generalize hv : a.eval x = vx at hd
        cases hd with
        | rp g k1 k2 k3 k4 =>
          refine good_still hR ?_ (.rp g k1 k2 k3 k4) h
          simp [execOp, hv, run_fieldAt (hE.fld hf), Nat.add_assoc]
      · exact h.elim
    · exact h.elim
  | field T x f =>
    simp only [opE] at h
    obtain ⟨d1, h1, h⟩ := getE_inv h
    have hd := opnd_rd hR hG h1
    split at h
    · rename_i off g n hf
      obtain ⟨fs, x', q1, q2, q3, q4, q5⟩ := fld_spec (hE.fld hf)
      split at h
      · split at h
        · rename_i d2 hd2
          generalize hv : a.eval x = vx at hd
          cases hd with
          | agg hn hr =>
            obtain ⟨v, h3, h4⟩ := takeE_agg hd2 q4 hn hr
            refine good_still hR ?_ h4 h
            simp [execOp, hv, Instr.field, run_underlying q1, q2, asAgg, q3, h3]
        · exact h.elim
      · exact h.elim
    · exact h.elim
  | indexAddr T x i =>
    simp only [opE] at h
    obtain ⟨d1, h1, h⟩ := getE_inv h
    obtain ⟨d2, h2, h⟩ := getE_inv h
    refine gives_good hR ?_ (indexAddrE_rd hE h (opnd_rd hR hG h1) (opnd_rd hR hG h2))
    simp [execOp]
  | index T x i =>
    simp only [opE] at h
    obtain ⟨d1, h1, h⟩ := getE_inv h
    obtain ⟨d2, h2, h⟩ := getE_inv h
    refine gives_good hR ?_ (indexE_rd hE h (opnd_rd hR hG h1) (opnd_rd hR hG h2))
    simp [execOp]
  | extract x i =>
    simp only [opE] at h
    obtain ⟨d1, h1, h⟩ := getE_inv h
    have hd := opnd_rd hR hG h1
    split at h
    · split at h
      · rename_i d2 hd2
        generalize hv : a.eval x = vx at hd
        cases hd with
        | tup hn hr =>
          have hlt := (List.getElem?_eq_some_iff.1 hd2).1
          rename_i cs
          have hlt' : i < cs.size := by omega
          refine good_still hR (v := cs[i]) ?_ (by rw [getD_at hlt']; exact hr i d2 hd2) h
          simp [execOp, hv, Instr.extract, Array.getElem?_eq_getElem hlt']
      · exact h.elim
    · exact h.elim
  | defer c =>
    obtain ⟨callee, args, tys⟩ := c
    simp only [opE] at h
    split at h
    · rename_i f
      split at h
      · rename_i g caps hf hargs
        have hfd := opnd_rd hR hG hf
        have hargs : args = #[] := by apply Array.ext'; simpa using hargs
        subst hargs
        generalize hv : a.eval f = vf at hfd
        cases hfd with
        | fn hn hr =>
          rename_i cs
          intro next Q hnext
          unfold Oper.wp
          have hrun : (execOp a.eval { dst := dst, op := Op.defer { callee := Callee.value f, args := #[], argTypes := tys }, type := ty, pos := pos, after := after, guard := guard }).run P w = .ok (.defer { target := .fn (.func g) cs, args := #[] }) w := by
            simp [execOp, resolve, Deferred.ofValue, hv]
          rw [hrun, Oper.upon_defer]
          have hdf : ∀ (i : Nat) (f' : FuncId) (l : List D), ((g, caps) :: s.df)[i]? = some (f', l) → ∃ cs' : Array Value, (({ target := .fn (.func g) cs, args := #[] } : Deferred) :: a.defers)[i]? = some { target := .fn (.func f') cs', args := #[] } ∧ cs'.size = l.length ∧ ∀ j d, l[j]? = some d → Rd φ (Mut C.M φ s.hp) w s.nx d (cs'.getD j undef) := by
            intro i f' l hi
            cases i with
            | zero =>
              simp at hi
              obtain ⟨rfl, rfl⟩ := hi
              exact ⟨cs, rfl, hn, hr⟩
            | succ i => simpa using hR.df i f' l (by simpa using hi)
          have hR2 : Rel C φ { s with df := (g, caps) :: s.df } { a with defers := { target := .fn (.func g) cs, args := #[] } :: a.defers } w :=
            { nt := hR.nt, tm := hR.tm, frn := hR.frn, fr := hR.fr, hp := hR.hp, inj := hR.inj, dfn := by simp [hR.dfn], df := hdf, below := hR.below, fl := hR.fl, M := hR.M, G := hR.G }
          exact hnext φ _ _ w (hR2.put dst .undef) h
      · exact h.elim
    · exact h.elim
  | call c =>
    obtain ⟨callee, args, tys⟩ := c
    simp only [opE, calleeE] at h
    cases callee with
    | invoke r m => exact h.elim
    | value f =>
      simp only at h
      split at h
      · rename_i g caps hf
        obtain ⟨ds, h1, h⟩ := getsE_inv h
        have hfd := opnd_rd hR hG hf
        have hds := hvs h1
        generalize hv : a.eval f = vf at hfd
        cases hfd with
        | fn hn hr =>
          rename_i cs
          refine good_call hE hR hG (vs := args.map a.eval ++ cs) ⟨?_, fun i d hd => ?_⟩ h ?_
          · have := hds.1
            simp at this
            simp [this, hn]
          · have h1 : args.size = ds.length := by have := hds.1; simpa using this
            rcases Nat.lt_or_ge i ds.length with hi | hi
            · rw [List.getElem?_append_left hi] at hd
              have := hds.2 i d hd
              rw [Array.getD_eq_getD_getElem?] at this ⊢
              rw [Array.getElem?_append_left (by simpa using (by omega : i < args.size))]
              simpa using this
            · rw [List.getElem?_append_right hi] at hd
              have := hr _ d hd
              rw [Array.getD_eq_getD_getElem?] at this ⊢
              rw [Array.getElem?_append_right (by simpa using (by omega : args.size ≤ i))]
              simpa [h1] using this
          · simp [execOp, resolve, Deferred.ofValue, hv, invoke]
      · exact h.elim
    | builtin b =>
      simp only at h
      obtain ⟨ds, h1, h⟩ := getsE_inv h
      have hds := hvs h1
      obtain ⟨hn, hr⟩ := hds
      have hargs : ∀ {l : List D}, ds = l → (args.map a.eval).toList.length = l.length := fun hl => by subst hl; simpa using hn
      unfold builtinE at h
      split at h
      · rename_i T ts x htys _
        obtain ⟨v0, hv0⟩ : ∃ v0, args.toList.map a.eval = [v0] := by
          have : (args.toList.map a.eval).length = 1 := by simpa using hn
          exact List.length_eq_one_iff.1 this
        have hx := hr 0 x rfl
        rw [hv0] at hx
        have hx : Rd φ (Mut C.M φ s.hp) w s.nx x v0 := hx
        refine gives_good hR (e := Builtin.len_ (T :: ts).toArray ty #[v0]) ?_ (lenE_rd hE h hx)
        have : args.map a.eval = #[v0] := by apply Array.ext'; simpa using hv0
        have ht : tys = (T :: ts).toArray := by apply Array.ext'; simpa using htys
        simp [execOp, resolve, invoke, builtin, this, ht]
      · rename_i T T' x y htys _
        obtain ⟨v0, v1, hv0⟩ : ∃ v0 v1, args.toList.map a.eval = [v0, v1] := by
          have : (args.toList.map a.eval).length = 2 := by simpa using hn
          match args.toList.map a.eval, this with
          | [v0, v1], _ => exact ⟨v0, v1, rfl⟩
        have hx := hr 0 x rfl
        have hy := hr 1 y rfl
        rw [hv0] at hx hy
        have hx : Rd φ (Mut C.M φ s.hp) w s.nx x v0 := hx
        have hy : Rd φ (Mut C.M φ s.hp) w s.nx y v1 := hy
        have hav : args.map a.eval = #[v0, v1] := by apply Array.ext'; simpa using hv0
        have ht : tys = #[T, T'] := by apply Array.ext'; simpa using htys
        unfold appendE at h
        split at h
        · rename_i hTT
          subst hTT
          split at h
          · rename_i e z by_ d hk
            split at h
            · rename_i xs hl
              rw [hE.F] at h
              obtain ⟨hp, h⟩ := h
              simp only [fns] at hp
              split at h
              · obtain ⟨hb, k0, k1⟩ := h
                simp only [fns] at hb
                generalize hq : v0 = v0' at hx
                cases hx
                rename_i ab
                subst hq
                refine good_append_nil (vy := v1) (ab := ab) hE hR (hE.kd hk) hl hp.1 hp.2 hy hb.1 hb.2 k0 k1 ?_
                simp [execOp, resolve, invoke, builtin, hav, ht]
              · rename_i b z' i n
                split at h
                · rename_i B hB
                  split at h
                  · rename_i hc
                    obtain ⟨rfl, rfl, hBz, hBt, hBv, hBf⟩ := hc
                    obtain ⟨hb, hk2⟩ := h
                    simp only [fns] at hb
                    refine good_append_own (vx := v0) (vy := v1) hE hR (hE.kd hk) hl hp.1 hp.2 hy hx hB hBz hBt hBv hBf hb.1 hb.2.1 hb.2.2 (by simpa [fns] using hk2) ?_
                    simp [execOp, resolve, invoke, builtin, hav, ht]
                  · exact h.elim
                · exact h.elim
              · exact h.elim
            · exact h.elim
          · exact h.elim
        · exact h.elim
      · rename_i x l _
        obtain ⟨v0, vs, hv0⟩ : ∃ v0 vs, args.toList.map a.eval = v0 :: vs := by
          cases hq : args.toList.map a.eval with
          | nil => have := hn; simp at this; rw [List.map_eq_nil_iff] at hq; simp at hq; simp [hq] at this
          | cons v0 vs => exact ⟨v0, vs, rfl⟩
        have hav : args.map a.eval = (v0 :: vs).toArray := by apply Array.ext'; simpa using hv0
        split at h
        · rename_i d hd
          have hx : Rd φ (Mut C.M φ s.hp) w s.nx x v0 := by have := hr 0 x rfl; rw [hv0] at this; exact this
          have hlen : vs.length = l.length := by rw [hv0] at hn; simpa using hn
          obtain ⟨v, h2, h3⟩ := minmax_rd (P := P) (w := w) hE (vs := vs) hd hx hlen (fun i e he => by
            have := hr (i + 1) e (by simpa using he)
            rw [hv0, Array.getD_eq_getD_getElem?, List.getElem?_toArray] at this
            rw [List.getD_eq_getElem?_getD]
            simpa using this)
          refine good_still hR (v := v) ?_ h3 h
          simp only [if_false, Bool.false_eq_true] at h2
          simp [execOp, resolve, invoke, builtin, hav, Builtin.min_, h2]
        · exact h.elim
      · rename_i x l _
        obtain ⟨v0, vs, hv0⟩ : ∃ v0 vs, args.toList.map a.eval = v0 :: vs := by
          cases hq : args.toList.map a.eval with
          | nil => have := hn; simp at this; rw [List.map_eq_nil_iff] at hq; simp at hq; simp [hq] at this
          | cons v0 vs => exact ⟨v0, vs, rfl⟩
        have hav : args.map a.eval = (v0 :: vs).toArray := by apply Array.ext'; simpa using hv0
        split at h
        · rename_i d hd
          have hx : Rd φ (Mut C.M φ s.hp) w s.nx x v0 := by have := hr 0 x rfl; rw [hv0] at this; exact this
          have hlen : vs.length = l.length := by rw [hv0] at hn; simpa using hn
          obtain ⟨v, h2, h3⟩ := minmax_rd (P := P) (w := w) hE (vs := vs) hd hx hlen (fun i e he => by
            have := hr (i + 1) e (by simpa using he)
            rw [hv0, Array.getD_eq_getD_getElem?, List.getElem?_toArray] at this
            rw [List.getD_eq_getElem?_getD]
            simpa using this)
          refine good_still hR (v := v) ?_ h3 h
          simp only [if_true, Bool.false_eq_true] at h2
          simp [execOp, resolve, invoke, builtin, hav, Builtin.max_, h2]
        · exact h.elim
      · rename_i T T' x y htys _
        obtain ⟨v0, v1, hv0⟩ : ∃ v0 v1, args.toList.map a.eval = [v0, v1] := by
          have : (args.toList.map a.eval).length = 2 := by simpa using hn
          match args.toList.map a.eval, this with
          | [v0, v1], _ => exact ⟨v0, v1, rfl⟩
        have hx := hr 0 x rfl
        have hy := hr 1 y rfl
        rw [hv0] at hx hy
        have hx : Rd φ (Mut C.M φ s.hp) w s.nx x v0 := hx
        have hy : Rd φ (Mut C.M φ s.hp) w s.nx y v1 := hy
        have hav : args.map a.eval = #[v0, v1] := by apply Array.ext'; simpa using hv0
        have ht : tys = #[T, T'] := by apply Array.ext'; simpa using htys
        refine good_copy (vx := v0) (vy := v1) (T' := T') hE hR h hx hy ?_
        simp [execOp, resolve, invoke, builtin, hav, ht]
      · rename_i T x htys _
        obtain ⟨v0, hv0⟩ : ∃ v0, args.toList.map a.eval = [v0] := by
          have : (args.toList.map a.eval).length = 1 := by simpa using hn
          exact List.length_eq_one_iff.1 this
        have hx := hr 0 x rfl
        rw [hv0] at hx
        have hx : Rd φ (Mut C.M φ s.hp) w s.nx x v0 := hx
        have hav : args.map a.eval = #[v0] := by apply Array.ext'; simpa using hv0
        have ht : tys = #[T] := by apply Array.ext'; simpa using htys
        refine good_clear (vx := v0) hE hR h hx ?_
        simp [execOp, resolve, invoke, builtin, hav, ht]
      · exact h.elim
  | _ => exact h.elim
end Go.Proofs.YtppmomobjjpljaaDoor.E
end

/- Part KE13. -/
section
/- A calculus for Go functions over an abstract memory (part 13): code and functions: wpE is sound. Conditions: those of each theorem. -/
namespace Go.Proofs.YtppmomobjjpljaaDoor.E
open Go Go.RowKit
set_option linter.unusedVariables false
set_option linter.unusedSimpArgs false
variable {P : Program} {E : Env} {φ : Nat → Nat} {w : World} {C : Ctx} {s : St} {a : Act} {K : St → Prop}

theorem dsts_get : ∀ (l : List Oper) (j : Nat), (dsts l)[j]? = (l[j]?).map (·.dst)
  | [], j => by simp [dsts]
  | o :: l, j => by
    cases j with
    | zero => simp [dsts]
    | succ j => simpa [dsts] using dsts_get l j
theorem bool_at {M : Nat → Prop} {n t : Nat} {b : Bool} {tmps : Array Value} (h : Rd φ M w n (.bool b) (tmps.getD t undef)) : tmps[t]? = some (.bool b) := by
  have := rd_bool h
  rw [Array.getD_eq_getD_getElem?] at this
  cases hq : tmps[t]? with
  | none => rw [hq] at this; simp [undef] at this
  | some v => rw [hq] at this; simp at this; rw [this]
theorem rd_skip {M : Nat → Prop} {n : Nat} : Rd φ M w n (.tup []) undef := .tup rfl fun i d h => by simp at h
theorem wants_not (hR : Rel C φ s a w) {ops : Array Oper} {o : Oper} {j t : Nat} {want : Bool} {l : List D} (hg : o.guard = some (j, want)) (ht : (dsts ops.toList)[j]? = some (some t)) (hb : lk s.tm t = some (.tup l)) : Region.wanted o (yielded ops a.tmps) = false := by
  have hy : yielded ops a.tmps j = none := by
    rw [dsts_get, Option.map_eq_some_iff] at ht
    obtain ⟨oj, h1, h2⟩ := ht
    have h1' : ops[j]? = some oj := by simpa using h1
    have h3 := hR.tm t _ hb
    rw [Array.getD_eq_getD_getElem?] at h3
    cases hq : a.tmps[t]? with
    | none => simp [yielded, h1', h2, hq]
    | some v =>
      rw [hq] at h3
      simp only [Option.getD_some] at h3
      cases h3
      simp [yielded, h1', h2, hq]
  simp [Region.wanted, hg, hy]
theorem ops_sound (hE : EnvOk P E) (hG : C.G = E.G) {ops : Array Oper} {Q : Exit → Act → World → Prop} (hQ : ∀ φ' s' a' w', Rel C φ' s' a' w' → K s' → Q .normal a' w') :
    ∀ (os : List Oper) (i : Nat), (∀ (k : Nat) (o : Oper), os[k]? = some o → ops[i + k]? = some o) → ∀ {φ : Nat → Nat} {s : St} {a : Act} {w : World}, Rel C φ s a w → opsE E (dsts ops.toList) os s K → wpOps P ops Q (List.range' i os.length) a w
  | [], i, _, φ, s, a, w, hR, h => hQ φ s a w hR h
  | o :: os, i, hos, φ, s, a, w, hR, h => by
    have hoi : ops[i]? = some o := by simpa using hos 0 o rfl
    have ih := fun {φ : Nat → Nat} {s : St} {a : Act} {w : World} (hR : Rel C φ s a w) (h : opsE E (dsts ops.toList) os s K) => ops_sound hE hG hQ os (i + 1) (fun k o' hk => by rw [show i + 1 + k = i + (k + 1) by omega]; exact hos (k + 1) o' (by simpa using hk)) hR h
    simp only [List.length_cons, List.range'_succ, wpOps, hoi]
    have act : ∀ {K' : St → Prop}, opE E o.op o.dst s (fun s' => opsE E (dsts ops.toList) os s' K) → o.wp P a w (wpOps P ops Q (List.range' (i + 1) os.length)) Q := fun h => opE_good hE hR hG h _ _ fun φ' s' a' w' h1 h2 => ih h1 h2
    have skip : opsE E (dsts ops.toList) os (s.set o.dst (.tup [])) K → wpOps P ops Q (List.range' (i + 1) os.length) (a.put o.dst undef) w := fun h => ih (hR.put o.dst rd_skip) h
    simp only [opsE] at h
    split at h
    · rename_i hg
      have hw : Region.wanted o (yielded ops a.tmps) = true := by simp [Region.wanted, hg]
      rw [if_pos hw]
      exact .inl (act (K' := K) h)
    · rename_i j want hg
      split at h
      · rename_i t ht
        split at h
        · rename_i b hb
          have hbv := bool_at (hR.tm t _ hb)
          have hy : yielded ops a.tmps j = some b := by
            rw [dsts_get, Option.map_eq_some_iff] at ht
            obtain ⟨oj, h1, h2⟩ := ht
            have h1' : ops[j]? = some oj := by simpa using h1
            simp [yielded, h1', h2, hbv]
          have hwant : Region.wanted o (yielded ops a.tmps) = (b == want) := by
            cases b <;> cases want <;> simp [Region.wanted, hg, hy]
          cases want <;> cases b <;> simp only [hwant] at h ⊢
          · rw [if_pos (by decide)]; exact .inl (act (K' := K) h)
          · rw [if_neg (by decide)]; exact skip h
          · rw [if_neg (by decide)]; exact skip h
          · rw [if_pos (by decide)]; exact .inl (act (K' := K) h)
        · rename_i l hl
          rw [wants_not hR hg ht hl]
          exact skip h
        · exact h.elim
      · exact h.elim

/-- Within a loop: at the head of a round. -/
def LoopIn (P : Program) (c : Code) (Q : Exit → Act → World → Prop) (a : Act) (w : World) : Prop :=
  ∀ b k cs, ∃ e a' w', Q e a' w' ∧ Arrives P (lone (b.at a (.code c :: .inLoop c :: k)) cs w) b k cs e a' w'
theorem loopIn_round {c : Code} {Q : Exit → Act → World → Prop} (h : c.wp P (Exit.then (LoopIn P c Q) Q) a w) : LoopIn P c Q a w := by
  intro b k cs
  obtain ⟨e, a₁, w₁, hq, harr⟩ := h b (.inLoop c :: k) cs
  cases e with
  | normal =>
    obtain ⟨e₂, a₂, w₂, hq₂, harr₂⟩ := hq b k cs
    exact ⟨e₂, a₂, w₂, hq₂, .of_steps (Steps.trans harr (.one step_inLoop)) harr₂⟩
  | _ => exact ⟨_, a₁, w₁, hq, .pass (x := .inLoop c) rfl (fun _ _ => .inl (by simp)) harr⟩
theorem wp_of_loopIn {c : Code} {Q : Exit → Act → World → Prop} (h : LoopIn P c Q a w) : (Code.loop c).wp P Q a w := by
  intro b k cs
  obtain ⟨e, a', w', hq, harr⟩ := h b k cs
  exact ⟨e, a', w', hq, .of_steps (.one step_loop) harr⟩
def lift (C : Ctx) (Q : Exit → St → Prop) (e : Exit) (a : Act) (w : World) : Prop := ∃ φ s, Rel C φ s a w ∧ Q e s
theorem wpE_sound (hE : EnvOk P E) (hG : C.G = E.G) (hdraw : ∀ {id : Nat} {ops : Array Oper} {s : St} {Q : Exit → St → Prop} {φ a w}, Rel C φ s a w → drawE E ops s (Q .normal) → (Code.region id ops true).wp P (lift C Q) a w) :
    ∀ (c : Code) {s : St} {Q : Exit → St → Prop} {φ : Nat → Nat} {a : Act} {w : World}, Rel C φ s a w → wpE E c s Q → c.wp P (lift C Q) a w := by
  intro c
  induction c with
  | skip => intro s Q φ a w hR h; exact wp_skip ⟨φ, s, hR, h⟩
  | region id ops d =>
    intro s Q φ a w hR h
    cases d with
    | true => exact hdraw hR h
    | false =>
      refine wp_region ?_
      rw [List.range_eq_range']
      have := ops_sound (K := Q .normal) (Q := lift C Q) hE hG (ops := ops) (fun φ' s' a' w' h1 h2 => ⟨φ', s', h1, h2⟩) ops.toList 0 (fun k o hk => by simpa using hk) hR h
      simpa using this
  | seq x y ihx ihy =>
    intro s Q φ a w hR h
    refine wp_seq (wp_mono (ihx hR h) ?_)
    rintro e a' w' ⟨φ', s', h1, h2⟩
    cases e with
    | normal => exact ihy h1 h2
    | _ => exact ⟨φ', s', h1, h2⟩
  | cond c x y ihx ihy =>
    intro s Q φ a w hR h
    simp only [wpE, condE] at h
    split at h
    · rename_i b hb
      have := rd_bool (opnd_rd hR hG hb)
      cases b with
      | true => exact wp_cond_true this (ihx hR h)
      | false => exact wp_cond_false this (ihy hR h)
    · exact h.elim
  | block id x ih =>
    intro s Q φ a w hR h
    refine wp_block (wp_mono (ih hR h) ?_)
    rintro e a' w' ⟨φ', s', h1, h2⟩
    cases e with
    | exit i =>
      simp only [blockK] at h2
      simp only [Exit.inBlock]
      split at h2
      · rename_i hi; rw [if_pos hi]; exact ⟨φ', s', h1, h2⟩
      · rename_i hi; rw [if_neg hi]; exact ⟨φ', s', h1, h2⟩
    | _ => exact ⟨φ', s', h1, h2⟩
  | loop x ih =>
    intro s Q φ a w hR h
    simp only [wpE] at h
    rw [hE.F] at h
    refine wp_of_loopIn (h (fun s => ∀ φ a w, Rel C φ s a w → LoopIn P x (lift C Q) a w) (fun s K hK ht φ a w hR => ?_) (fun s s' hW hZ φ a w hR => (hW C φ a w hG hR).elim fun φ' hR' => hZ φ' a w hR') φ a w hR)
    refine loopIn_round (wp_mono (ih hR ht) ?_)
    rintro e a' w' ⟨φ', s', h1, h2⟩
    cases e with
    | normal => exact hK s' h2 φ' a' w' h1
    | _ => exact ⟨φ', s', h1, h2⟩
  | exit id => intro s Q φ a w hR h; exact wp_exit ⟨φ, s, hR, h⟩
  | ret => intro s Q φ a w hR h; exact wp_ret ⟨φ, s, hR, h⟩
  | label l => intro s Q φ a w hR h; exact wp_label ⟨φ, s, hR, h⟩
  | goto l => intro s Q φ a w hR h; exact wp_goto ⟨φ, s, hR, h⟩
  | rangeFunc => intro s Q φ a w hR h; exact h.elim
  | scope x ih =>
    intro s Q φ a w hR h
    refine wp_scope_straight (wp_mono (ih hR h) ?_)
    rintro e a' w' ⟨φ', s', h1, h2⟩
    cases e with
    | goto l => exact h2.elim
    | _ => exact ⟨φ', s', h1, h2⟩
  | refuse => intro s Q φ a w hR h; exact h.elim
end Go.Proofs.YtppmomobjjpljaaDoor.E
end

/- Part KE14. -/
section
/- A calculus for Go functions over an abstract memory (part 14): contracts out of wpE. Conditions: those of each theorem. -/
namespace Go.Proofs.YtppmomobjjpljaaDoor.E
open Go Go.RowKit
set_option linter.unusedVariables false
set_option linter.unusedSimpArgs false
variable {P : Program} {E : Env} {φ : Nat → Nat} {w : World} {C : Ctx} {s : St} {a : Act} {K : St → Prop}

def rv (tmps : Array Value) : ResultVar → Sem Value
  | .tmp t => pure (tmps.getD t undef)
  | .cell x T => do loadVar T (← asAddr (tmps.getD x undef))
theorem resE_rd (hE : EnvOk P E) (hR : Rel C φ s a w) : ∀ {rs : List ResultVar} {K : List D → Prop}, resE E s rs K →
    ∃ l vs, (rs.mapM (rv a.tmps)).run P w = .ok vs w ∧ vs.length = l.length ∧ (∀ (i : Nat) (d : D), l[i]? = some d → Rd φ (Mut C.M φ s.hp) w s.nx d (vs.getD i undef)) ∧ K l
  | [], K, h => ⟨[], [], by simp, rfl, fun i d hd => by simp at hd, h⟩
  | .tmp t :: rs, K, h => by
    simp only [resE] at h
    split at h
    · rename_i d hd
      obtain ⟨l, vs, h1, h2, h3, h4⟩ := resE_rd hE hR h
      refine ⟨d :: l, a.tmps.getD t undef :: vs, by simp [rv, h1], by simp [h2], fun i e he => ?_, h4⟩
      cases i with
      | zero => simp at he; subst he; simpa using hR.tm t _ hd
      | succ i => simpa using h3 i e (by simpa using he)
    · exact h.elim
  | .cell t T :: rs, K, h => by
    simp only [resE] at h
    split at h
    · rename_i p hp
      unfold loadE at h
      split at h
      · rename_i g n hsz
        obtain ⟨e, j, q, o', h2, h3, h4⟩ := elem_rd hR h (hR.tm t _ hp)
        split at h2
        · rename_i d hd
          obtain ⟨v, h5, h6⟩ := load_rd (hE.sz hsz) hd h4
          obtain ⟨l, vs, k1, k2, k3, k4⟩ := resE_rd hE hR h2
          refine ⟨d :: l, v :: vs, by simp [rv, h3, asAddr, h5, k1], by simp [k2], fun i e he => ?_, k4⟩
          cases i with
          | zero => simp at he; subst he; simpa using h6
          | succ i => simpa using k3 i e (by simpa using he)
        · exact h2.elim
      · exact h.elim
    · exact h.elim
theorem results_rd (hE : EnvOk P E) (hR : Rel C φ s a w) {fn : Func} {K : D → Prop} (h : resE E s fn.results.toList fun l => K (packE l)) : ∃ v d, (results fn a.tmps).run P w = .ok v w ∧ Rd φ (Mut C.M φ s.hp) w s.nx d v ∧ K d := by
  obtain ⟨l, vs, h1, h2, h3, h4⟩ := resE_rd hE hR h
  have hrun : (fn.results.mapM (rv a.tmps)).run P w = .ok vs.toArray w := by
    rw [Array.mapM_eq_mapM_toList, Sem.run_map, h1]; rfl
  have hres : (results fn a.tmps).run P w = .ok (if h : vs.toArray.size = 1 then vs.toArray[0] else .tuple vs.toArray) w := by
    have : results fn a.tmps = (do let vs ← fn.results.mapM (rv a.tmps); pure (if h : vs.size = 1 then vs[0] else .tuple vs)) := by
      unfold results
      congr 1
    rw [this, Sem.run_bind, hrun]
    rfl
  refine ⟨_, packE l, hres, ?_, h4⟩
  match l, vs, h2, h3 with
  | [d], [v], _, h3 => simpa [packE] using h3 0 d rfl
  | [], [], _, h3 => exact .tup rfl fun i d hd => by simp at hd
  | d1 :: d2 :: l, v1 :: v2 :: vs, h2, h3 =>
    have : ¬ ((v1 :: v2 :: vs).toArray.size = 1) := by simp
    rw [dif_neg this]
    refine .tup (by simpa using h2) fun i d hd => ?_
    have := h3 i d hd
    rw [Array.getD_eq_getD_getElem?, List.getElem?_toArray]
    rwa [List.getD_eq_getElem?_getD] at this

theorem argsT_get : ∀ (ds : List D) (k i : Nat) (d : D), lk (argsT k ds) i = some d → k ≤ i ∧ ds[i - k]? = some d
  | [], k, i, d, h => by simp [argsT, lk] at h
  | x :: ds, k, i, d, h => by
    simp only [argsT, lk] at h
    split at h
    · rename_i hk; subst hk; exact ⟨Nat.le_refl _, by simpa using h⟩
    · obtain ⟨h1, h2⟩ := argsT_get ds (k + 1) i d h
      refine ⟨by omega, ?_⟩
      rw [show i - k = i - (k + 1) + 1 by omega]
      simpa using h2
/-- The facts of a function that a proof of its contract begins with. -/
structure Fn (P : Program) (f : FuncId) (fn : Func) (c : Code) : Prop where
  get : P.funcs[f]? = some fn
  name : (fn.name == "runtime.NumGoroutine") = false
  body : fn.body = some c
theorem Fn.enters {f : FuncId} {fn : Func} {c : Code} (h : Fn P f fn c) : Enters P f := by
  intro args w
  have hn := h.name
  simp only [beq_eq_false_iff_ne, ne_eq] at hn
  simp [callFunc, h.get, hn, h.body]
def Draws (P : Program) (E : Env) : Prop :=
  ∀ {C : Ctx} {id : Nat} {ops : Array Oper} {s : St} {Q : Exit → St → Prop} {φ : Nat → Nat} {a : Act} {w : World}, C.G = E.G → Rel C φ s a w → drawE E ops s (Q .normal) → (Code.region id ops true).wp P (lift C Q) a w

theorem start_rel {f : FuncId} {fn : Func} {c : Code} {ds : List D} {vs : Array Value} {M : Nat → Prop} {G : List (Nat × D)} (hn : ds.length ≤ fn.ntmps) (hM : ∀ k, M k → k < w.heap.size) (hG : GRel G M w.heap.size w) (hvs : Rds φ M w 0 ds vs) :
    Rel { fl := w.heap.size, w0 := w, M := M, frv := [], G := G } φ (St.start fn.ntmps ds) { tmps := vs ++ Array.replicate (fn.ntmps - vs.size) undef, defers := [] } w where
  nt := by simp [St.start, hvs.1]; omega
  tm i d hd := by
    obtain ⟨_, h2⟩ := argsT_get ds 0 i d hd
    rw [Nat.sub_zero] at h2
    have h3 := hvs.2 i d h2
    have hlt : i < vs.size := by rw [hvs.1]; exact (List.getElem?_eq_some_iff.1 h2).1
    rw [getD_app_left hlt]
    exact h3.move (r := 0) ⟨Nat.le_refl _, fun _ _ _ => rfl, fun _ _ _ => rfl, fun k _ hk => by
      rcases hk with hk | ⟨b, B, hb, _⟩
      · exact hk
      · simp [St.start, lk] at hb, fun b hb => absurd hb (Nat.not_lt_zero b)⟩ (Nat.le_refl _) (Nat.le_refl _)
  frn := rfl
  fr i t vs' h := by simp [St.start] at h
  hp b B h := by simp [St.start, lk] at h
  inj b b' B B' h := by simp [St.start, lk] at h
  dfn := rfl
  df i f l h := by simp [St.start] at h
  below := Below.refl _ _
  fl := Nat.le_refl _
  M := hM
  G := hG

/-- What a function's end has to give, where its result is told by content alone. -/
def Exp0 (E : Env) (d' : D) (d : D) (s : St) : Prop := E.F.pr fun _ => inRows s d ∧ reify E s d = some d'
theorem Rel.noDf (h : Rel C φ s a w) : Rel C φ { s with df := [] } { a with defers := [] } w :=
  { nt := h.nt, tm := h.tm, frn := h.frn, fr := h.fr, hp := h.hp, inj := h.inj, dfn := rfl, df := fun i f l hi => by simp at hi, below := h.below, fl := h.fl, M := h.M, G := h.G }
/-- A call's end: what was deferred runs, then the results are read. -/
theorem end_wpE (hE : EnvOk P E) (hG : C.G = E.G) {fn : Func} {K : D → St → Prop} (hR : Rel C φ s a w) (h : defE E s fun s' => resE E s' fn.results.toList fun l => K (packE l) s') {R : Ending → World → Prop}
    (hr : ∀ v d φ' s' a' w', Rel C φ' s' a' w' → Rd φ' (Mut C.M φ' s'.hp) w' s'.nx d v → K d s' → R (.returned v) w') : Leaves P fn a.tmps R a.defers .returning w := by
  unfold defE at h
  split at h
  · rename_i hdf
    have hd0 : a.defers = [] := List.eq_nil_of_length_eq_zero (by rw [hR.dfn, hdf]; rfl)
    rw [hd0]
    obtain ⟨v, d, h3, h4, h5⟩ := results_rd (K := fun d => K d s) hE hR h
    exact ⟨v, h3, hr v d φ s a w hR h4 h5⟩
  · rename_i f l hdf
    obtain ⟨cs, h1, h2, h3⟩ := hR.df 0 f l (by rw [hdf]; rfl)
    have hd1 : a.defers = [{ target := .fn (.func f) cs, args := #[] }] := by
      have hlen : a.defers.length = 1 := by rw [hR.dfn, hdf]; rfl
      obtain ⟨x, hx⟩ := List.length_eq_one_iff.1 hlen
      rw [hx] at h1 ⊢
      simpa using h1
    rw [hd1]
    rw [hE.F] at h
    have h : ICall P E.G f l { s with df := [] } _ := h
    refine leaves_cons (f := f) (args := cs) (by simp) ?_ (((h.2 C φ { a with defers := [] } w cs hG hR.noDf ⟨h2, h3⟩).2 .returning).mono ?_)
    · have := h.1 cs w
      simp [invoke, this]
    · rintro e u' w' ⟨rfl, v, d, φ', s', rfl, k1, k2, k3⟩
      simp only [settle]
      split at k3
      · rename_i hdf'
        obtain ⟨v', d', q1, q2, q3⟩ := results_rd (K := fun d => K d s') hE k1 k3
        exact ⟨v', q1, hr v' d' φ' s' _ w' k1 q2 q3⟩
      · exact k3.elim
  · exact h.elim
theorem calls_wpE (hE : EnvOk P E) (hD : Draws P E) {f : FuncId} {fn : Func} {c : Code} (hf : Fn P f fn c) {ds : List D} {vs : Array Value} {M : Nat → Prop} (hn : ds.length ≤ fn.ntmps) (hM : ∀ k, M k → k < w.heap.size) (hG : GRel E.G M w.heap.size w)
    (hvs : Rds φ M w 0 ds vs) {K : D → St → Prop} (h : wpE E c (St.start fn.ntmps ds) (retE E fn.results.toList K)) :
    Calls P f vs w fun e w' => ∃ v d φ' s' a', e = .returned v ∧ Rel { fl := w.heap.size, w0 := w, M := M, frv := [], G := E.G } φ' s' a' w' ∧ Rd φ' (Mut M φ' s'.hp) w' s'.nx d v ∧ K d s' := by
  have hR := start_rel (f := f) (c := c) hn hM hG hvs
  refine calls_of_wp_defers hf.get hf.body (wp_mono (wpE_sound hE rfl (fun hR' h' => hD rfl hR' h') c hR h) ?_)
  rintro e a' w' ⟨φ', s', h1, h2⟩
  cases e with
  | normal => exact end_wpE (K := K) hE rfl h1 h2 fun v d φ'' s'' a'' w'' k1 k2 k3 => ⟨v, d, φ'', s'', a'', rfl, k1, k2, k3⟩
  | ret => exact end_wpE (K := K) hE rfl h1 h2 fun v d φ'' s'' a'' w'' k1 k2 k3 => ⟨v, d, φ'', s'', a'', rfl, k1, k2, k3⟩
  | exit id => exact h2.elim
  | goto l => exact h2.elim
  | panic ch => exact h2.elim
  | outgrown => exact h2.elim
/-- A CALL IN PLACE, told by wpE of the function's code. -/
theorem icall_wpE (hE : EnvOk P E) (hD : Draws P E) {f : FuncId} {fn : Func} {c : Code} (hf : Fn P f fn c) {ds : List D} (hn : ds.length ≤ fn.ntmps) (hdf : s.df = []) {K : D → St → Prop}
    (h : wpE E c (s.inner fn.ntmps ds) fun e s' => (match e with
      | .normal => True
      | .ret => True
      | _ => False) ∧ s'.df = [] ∧ resE E s' fn.results.toList fun l => outK s.nt K (packE l) s') : ICall P E.G f ds s K := by
  refine ⟨hf.enters, fun C φ a w vs hG hR hvs => ?_⟩
  have hin : Rel { C with frv := a.tmps :: C.frv } φ (s.inner fn.ntmps ds) { tmps := vs ++ Array.replicate (fn.ntmps - vs.size) undef, defers := [] } w := by
    refine { nt := by simp [St.inner, hvs.1]; omega, tm := fun i d hd => ?_, frn := by simp [St.inner, hR.frn], fr := fun i t vs' h1 h2 j d hd => ?_, hp := hR.hp, inj := hR.inj, dfn := rfl, df := fun i f l hi => by simp [St.inner] at hi, below := hR.below, fl := hR.fl, M := hR.M, G := hR.G }
    · obtain ⟨_, h2⟩ := argsT_get ds 0 i d hd
      rw [Nat.sub_zero] at h2
      have h3 := hvs.2 i d h2
      have hlt : i < vs.size := by rw [hvs.1]; exact (List.getElem?_eq_some_iff.1 h2).1
      rw [getD_app_left hlt]
      exact h3
    · cases i with
      | zero =>
        simp [St.inner] at h1 h2
        subst h1; subst h2
        exact hR.tm j d hd
      | succ i => exact hR.fr i t vs' (by simpa [St.inner] using h1) (by simpa using h2) j d hd
  have post : ∀ φ' s' a' w', Rel { C with frv := a.tmps :: C.frv } φ' s' a' w' → s'.df = [] → (resE E s' fn.results.toList fun l => outK s.nt K (packE l) s') → a'.defers = [] ∧ ∃ v, (results fn a'.tmps).run P w' = .ok v w' ∧ ∃ v' d φ'' s'', Ending.returned v = .returned v' ∧ Rel C φ'' s'' a w' ∧ Rd φ'' (Mut C.M φ'' s''.hp) w' s''.nx d v' ∧ K d s'' := fun φ' s' a' w' h1 h2 h3 => by
    have hd0 : a'.defers = [] := List.eq_nil_of_length_eq_zero (by rw [h1.dfn, h2]; rfl)
    obtain ⟨v, d, k1, k2, k3⟩ := results_rd (K := fun d => outK s.nt K d s') hE h1 h3
    unfold outK at k3
    split at k3
    · rename_i t r hfr
      refine ⟨hd0, v, k1, v, d, φ', { tm := t, hp := s'.hp, nx := s'.nx, nt := s.nt, fr := r, df := [] }, rfl, ?_, k2, k3⟩
      refine { nt := hR.nt, tm := fun i e he => h1.fr 0 t a.tmps (by rw [hfr]; rfl) rfl i e he, frn := by have := h1.frn; rw [hfr] at this; simpa using this, fr := fun i t' vs' q1 q2 j e he => h1.fr (i + 1) t' vs' (by rw [hfr]; simpa using q1) (by simpa using q2) j e he, hp := h1.hp, inj := h1.inj, dfn := by have := hR.dfn; rw [hdf] at this; simpa using this, df := fun i f l hi => by simp at hi, below := h1.below, fl := h1.fl, M := h1.M, G := h1.G }
    · exact k3.elim
  have body := wpE_sound (C := { C with frv := a.tmps :: C.frv }) hE hG (fun hR' h' => hD hG hR' h') c hin h
  refine ⟨calls_of_wp hf.get hf.body (wp_mono body ?_), fun u => callsD_of_wp hf.get hf.body (wp_mono body ?_)⟩ <;>
  · rintro e a' w' ⟨φ', s', h1, h2, h3, h4⟩
    cases e with
    | normal => exact post φ' s' a' w' h1 h3 h4
    | ret => exact post φ' s' a' w' h1 h3 h4
    | exit id => exact h2.elim
    | goto l => exact h2.elim
    | panic ch => exact h2.elim
    | outgrown => exact h2.elim
theorem lk_nil (b : Nat) : lk (ups 0 0 ([] : List Blk)) b = none := rfl
theorem contract_exp0 (hE : EnvOk P E) (hD : Draws P E) {f : FuncId} {fn : Func} {c : Code} (hf : Fn P f fn c) {ds : List D} {d : D} (hn : ds.length ≤ fn.ntmps)
    (h : wpE E c (St.start fn.ntmps ds) (retE E fn.results.toList (Exp0 E d))) : Contract P E.G f ds d [] := by
  refine ⟨hf.enters, fun M w vs φ0 hM hG hvs => (calls_wpE hE hD hf hn hM hG hvs h).mono ?_⟩
  rintro e w' ⟨v, d', φ', s', a', rfl, h1, h2, h3⟩
  rw [Exp0, hE.F] at h3
  simp only [fns] at h3
  have h4 := reify_rd (M' := M) hE h1 h2 h3.1 d
  have h5 := reify_rd hE h1 h2 h3.1 d M (fun _ hk => hk) h3.2
  refine ⟨v, φ', rfl, h1.below, (fun b B hb => by rw [lk_nil] at hb; cases hb), (fun b b' B B' hb => by rw [lk_nil] at hb; cases hb), ?_⟩
  exact h5.move (r := 0) ⟨Nat.le_refl _, fun _ _ _ => rfl, fun _ _ _ => rfl, (fun k _ hk => by
      rcases hk with hk | ⟨b, B, hb, _⟩
      · exact hk
      · rw [lk_nil] at hb; cases hb), fun b hb => absurd hb (Nat.not_lt_zero b)⟩ (Nat.le_refl _) (Nat.le_refl _)

mutual
/-- The names of blocks turned by π. -/
def D.ren (π : Nat → Nat) : D → D
  | .agg l => .agg (D.renL π l)
  | .tup l => .tup (D.renL π l)
  | .fn f l => .fn f (D.renL π l)
  | .sl b z i n => .sl (π b) z i n
  | .ptr b z i j => .ptr (π b) z i j
  | .int a n => .int a n
  | .bool b => .bool b
  | .str t => .str t
  | .sc v => .sc v
  | .nil => .nil
  | .ro l => .ro l
  | .rp e j => .rp e j
  | .undef => .undef
def D.renL (π : Nat → Nat) : List D → List D
  | [] => []
  | d :: l => D.ren π d :: D.renL π l
end
theorem renL_map (π : Nat → Nat) : ∀ l : List D, D.renL π l = l.map (D.ren π)
  | [] => rfl
  | d :: l => by rw [D.renL, renL_map π l]; rfl
theorem ltL_get {n : Nat} : ∀ {l : List D}, D.ltL n l = true → ∀ {i : Nat} {d : D}, l[i]? = some d → d.lt n = true
  | [], _, i, d, h => by simp at h
  | e :: l, hf, i, d, h => by
    simp only [D.ltL, Bool.and_eq_true] at hf
    cases i with
    | zero => simp at h; rw [← h]; exact hf.1
    | succ i => exact ltL_get hf.2 (by simpa using h)
theorem Rd.unren {φ' : Nat → Nat} {M M' : Nat → Prop} {n m : Nat} {π : Nat → Nat} {d : D} {v : Value} (h : Rd φ M w n d v) (hφ : ∀ b, b < m → φ' b = φ (π b)) (hM : ∀ k, k < w.heap.size → M' k → M k) : ∀ d', d = d'.ren π → d'.lt m = true → Rd φ' M' w m d' v := by
  have hc : Carry φ φ' M M' w w 0 0 := ⟨Nat.le_refl _, fun b hb => absurd hb (Nat.not_lt_zero b), fun _ _ _ => rfl, hM, fun b hb => absurd hb (Nat.not_lt_zero b)⟩
  induction h with
  | int => intro d' he _; cases d' <;> simp only [D.ren] at he <;> cases he; exact .int
  | bool => intro d' he _; cases d' <;> simp only [D.ren] at he <;> cases he; exact .bool
  | str => intro d' he _; cases d' <;> simp only [D.ren] at he <;> cases he; exact .str
  | sc h => intro d' he _; cases d' <;> simp only [D.ren] at he <;> cases he; exact .sc h
  | nil => intro d' he _; cases d' <;> simp only [D.ren] at he <;> cases he; exact .nil
  | undef => intro d' he _; cases d' <;> simp only [D.ren] at he <;> cases he; exact .undef
  | roE h => intro d' he _; cases d' <;> simp only [D.ren] at he <;> cases he; exact .roE h
  | ro g h1 h2 h3 h4 h5 h6 h7 h8 =>
    intro d' he _; cases d' <;> simp only [D.ren] at he <;> cases he
    exact .ro g h1 h2 (fun hk => h3 (hM _ h4 hk)) h4 h5 h6 h7 fun i e j d he hd => (h8 i e j d he hd).move hc (Nat.le_refl _) (Nat.le_refl _)
  | rp g h1 h2 h3 h4 =>
    intro d' he _; cases d' <;> simp only [D.ren] at he <;> cases he
    exact .rp g (fun hk => h1 (hM _ h2 hk)) h2 h3 fun i d hd => (h4 i d hd).move hc (Nat.le_refl _) (Nat.le_refl _)
  | sl k1 k2 k3 k4 k5 =>
    intro d' he hl; cases d' <;> simp only [D.ren] at he <;> cases he
    simp only [D.lt, decide_eq_true_eq] at hl
    rw [← hφ _ hl] at k2 ⊢
    exact .sl hl k2 k3 k4 k5
  | ptr k1 =>
    intro d' he hl; cases d' <;> simp only [D.ren] at he <;> cases he
    simp only [D.lt, decide_eq_true_eq] at hl
    rw [← hφ _ hl]
    exact .ptr hl
  | agg hn h ih =>
    intro d' he hl; cases d' <;> simp only [D.ren] at he <;> cases he
    rw [renL_map] at hn h ih
    refine .agg (by simpa using hn) fun i d hd => ?_
    exact ih i (d.ren π) (by rw [List.getElem?_map, hd]; rfl) d rfl (ltL_get (by simpa [D.lt] using hl) hd)
  | tup hn h ih =>
    intro d' he hl; cases d' <;> simp only [D.ren] at he <;> cases he
    rw [renL_map] at hn h ih
    refine .tup (by simpa using hn) fun i d hd => ?_
    exact ih i (d.ren π) (by rw [List.getElem?_map, hd]; rfl) d rfl (ltL_get (by simpa [D.lt] using hl) hd)
  | fn hn h ih =>
    intro d' he hl; cases d' <;> simp only [D.ren] at he <;> cases he
    rw [renL_map] at hn h ih
    refine .fn (by simpa using hn) fun i d hd => ?_
    exact ih i (d.ren π) (by rw [List.getElem?_map, hd]; rfl) d rfl (ltL_get (by simpa [D.lt] using hl) hd)
/-- What a function's end has to give, where it hands out rows of its own: block k of ext is the function's block ids[k]. -/
def ExpOwn (E : Env) (ids : List Nat) (d' : D) (ext : List Blk) (d : D) (s : St) : Prop :=
  E.F.pr fun _ => d = d'.ren (fun k => ids.getD k 0) ∧ d'.lt ext.length = true ∧ ids.Nodup ∧ ids.length = ext.length ∧ ∀ (k : Nat) (B : Blk), ext[k]? = some B → B.flat = true ∧ lk s.hp (ids.getD k 0) = some B
theorem contract_own (hE : EnvOk P E) (hD : Draws P E) {f : FuncId} {fn : Func} {c : Code} (hf : Fn P f fn c) {ds : List D} {d : D} {ext : List Blk} (ids : List Nat) (hn : ds.length ≤ fn.ntmps)
    (h : wpE E c (St.start fn.ntmps ds) (retE E fn.results.toList (ExpOwn E ids d ext))) : Contract P E.G f ds d ext := by
  refine ⟨hf.enters, fun M w vs φ0 hM hG hvs => (calls_wpE hE hD hf hn hM hG hvs h).mono ?_⟩
  rintro e w' ⟨v, d', φ', s', a', rfl, h1, h2, h3⟩
  rw [ExpOwn, hE.F] at h3
  simp only [fns] at h3
  obtain ⟨h3, h4, h5, h6, h7⟩ := h3
  have hlk : ∀ b, lk (ups 0 0 ext) b = ext[b]? := fun b => by rw [lk_ups]; simp
  have hM' : ∀ k, Mut M (fun b => φ' (ids.getD b 0)) (ups 0 0 ext) k → Mut M φ' s'.hp k := fun k hk => by
    rcases hk with hk | ⟨b, B, hb, rfl⟩
    · exact .inl hk
    · rw [hlk] at hb; exact .inr ⟨_, B, (h7 b B hb).2, rfl⟩
  refine ⟨v, fun b => φ' (ids.getD b 0), rfl, h1.below, fun b B hb => ?_, fun b b' B B' hb hb' he => ?_, h2.unren (fun _ _ => rfl) (fun k _ hk => hM' k hk) d h3 h4⟩
  · rw [hlk] at hb
    obtain ⟨h8, h9⟩ := h7 b B hb
    obtain ⟨k1, k2, cs, k3⟩ := h1.hp _ B h9
    refine ⟨(List.getElem?_eq_some_iff.1 hb).1, k2, h8, cs, ⟨k3.heap, k3.size, k3.zs, k3.one, fun i e j x he hx => ?_⟩⟩
    have := k3.rd i e j x he hx
    rw [h8] at this ⊢
    exact this.move (r := 0) ⟨Nat.le_refl _, fun b hb => absurd hb (Nat.not_lt_zero b), fun _ _ _ => rfl, fun k _ hk => hM' k hk, fun b hb => absurd hb (Nat.not_lt_zero b)⟩ (Nat.le_refl _) (Nat.le_refl _)
  · rw [hlk] at hb hb'
    have := h1.inj _ _ B B' (h7 b B hb).2 (h7 b' B' hb').2 he
    have hb1 : b < ids.length := by rw [h6]; exact (List.getElem?_eq_some_iff.1 hb).1
    have hb2 : b' < ids.length := by rw [h6]; exact (List.getElem?_eq_some_iff.1 hb').1
    simp only [List.getD_eq_getElem?_getD, List.getElem?_eq_getElem hb1, List.getElem?_eq_getElem hb2, Option.getD_some] at this
    rcases Nat.lt_trichotomy b b' with hlt | hlt | hlt
    · exact absurd this (List.pairwise_iff_getElem.1 h5 b b' hb1 hb2 hlt)
    · exact hlt
    · exact absurd this.symm (List.pairwise_iff_getElem.1 h5 b' b hb2 hb1 hlt)
end Go.Proofs.YtppmomobjjpljaaDoor.E
end

/- Part KD1. -/
section
/- A calculus for Go functions over an abstract memory (regions that draw their order, part 1): a quiet operation's outcome is one, and stays when more is known. Conditions: those of each theorem. -/
namespace Go.Proofs.YtppmomobjjpljaaDoor.E
open Go Go.RowKit
set_option linter.unusedVariables false
set_option linter.unusedSimpArgs false
variable {P : Program} {E : Env} {s s' : St}

/-- More is known. -/
structure Le (s s' : St) : Prop where
  tm : ∀ i d, lk s.tm i = some d → lk s'.tm i = some d
  hp : ∀ b B, lk s.hp b = some B → lk s'.hp b = some B

theorem opnd_mono (h : Le s s') {x : Operand} {d : D} (hd : opnd E.G s x = some d) : opnd E.G s' x = some d := by
  cases x with
  | tmp t => exact h.tm t d hd
  | _ => exact hd
theorem opnds_mono (h : Le s s') : ∀ {l : List Operand} {ds : List D}, opnds E.G s l = some ds → opnds E.G s' l = some ds
  | [], ds, hd => hd
  | x :: l, ds, hd => by
    simp only [opnds] at hd ⊢
    split at hd
    · rename_i d r h1 h2
      rw [opnd_mono h h1, opnds_mono h h2]; exact hd
    · cases hd
theorem partsE_mono (h : Le s s') : ∀ {l : List (Nat × Operand)} {ds : List (Nat × D)}, partsE E.G s l = some ds → partsE E.G s' l = some ds
  | [], ds, hd => hd
  | (i, x) :: l, ds, hd => by
    simp only [partsE] at hd ⊢
    split at hd
    · rename_i d r h1 h2
      rw [opnd_mono h h1, partsE_mono h h2]; exact hd
    · cases hd
theorem elemE_mono (h : Le s s') {p : D} {K : D → Nat → Prop} (hd : elemE s p K) : elemE s' p K := by
  unfold elemE at hd ⊢
  split at hd
  · split at hd
    · rename_i B hB
      simp only [h.hp _ _ hB]
      exact hd
    · exact hd.elim
  · exact hd
  · exact hd.elim
theorem loadE_mono (h : Le s s') {T : TypeId} {p : D} {K : D → Prop} (hd : loadE E T s p K) : loadE E T s' p K := by
  unfold loadE at hd ⊢
  split at hd
  · exact elemE_mono h hd
  · exact hd.elim
theorem listE_mono (h : Le s s') {z : Nat} {x : D} {l : List D} (hd : listE E s z x = some l) : listE E s' z x = some l := by
  unfold listE at hd ⊢
  split at hd
  · exact hd
  · exact hd
  · split at hd
    · rename_i B hB
      simp only [h.hp _ _ hB]
      exact hd
    · cases hd
  · cases hd
theorem inRow_mono (h : Le s s') {x : D} (hd : inRow s x) : inRow s' x := by
  unfold inRow at hd ⊢
  split
  · rename_i b z i n
    simp only at hd
    split at hd
    · rename_i B hB
      simp only [h.hp _ _ hB]
      exact hd
    · exact hd.elim
  · trivial
theorem boundE_mono (h : Le s s') {o : Option Operand} {d : Nat} {K : Nat → Prop} (hd : boundE E s o d K) : boundE E s' o d K := by
  unfold boundE at hd ⊢
  split at hd
  · exact hd
  · split at hd
    · rename_i x _ _ hx
      simp only [opnd_mono h hx]
      exact hd
    · exact hd.elim
theorem boundE_imp {o : Option Operand} {d : Nat} {K K' : Nat → Prop} (hK : ∀ n, K n → K' n) (hd : boundE E s o d K) : boundE E s o d K' := by
  unfold boundE at hd ⊢
  split at hd
  · exact hK _ hd
  · split at hd
    · exact ⟨hd.1, hK _ hd.2⟩
    · exact hd.elim
theorem sliceE_mono (h : Le s s') {T : TypeId} {x : D} {lo hi : Option Operand} {K : D → Prop} (hd : sliceE E T s x lo hi K) : sliceE E T s' x lo hi K := by
  unfold sliceE at hd ⊢
  split at hd
  · refine boundE_mono h (boundE_imp (fun n hn => ?_) hd)
    split at hn
    · rename_i hz
      rw [if_pos hz]
      split at hn
      · exact hn
      · exact boundE_mono h hn
    · exact hn.elim
  · exact boundE_mono h (boundE_imp (fun n hn => boundE_mono h hn) hd)
  · exact boundE_mono h (boundE_imp (fun n hn => boundE_mono h hn) hd)
  · exact hd.elim
mutual
theorem reify_mono (h : Le s s') : ∀ {d x : D}, reify E s d = some x → reify E s' d = some x
  | .sl b z i n, x, hd => by
    simp only [reify] at hd ⊢
    split at hd
    · rename_i B hB; simp only [h.hp _ _ hB]; exact hd
    · cases hd
  | .ptr b z i j, x, hd => by
    simp only [reify] at hd ⊢
    split at hd
    · rename_i B hB; simp only [h.hp _ _ hB]; exact hd
    · cases hd
  | .agg l, x, hd => by
    simp only [reify] at hd ⊢
    split at hd
    · rename_i r hr; rw [reifyL_mono h hr]; exact hd
    · cases hd
  | .tup l, x, hd => by
    simp only [reify] at hd ⊢
    split at hd
    · rename_i r hr; rw [reifyL_mono h hr]; exact hd
    · cases hd
  | .fn f l, x, hd => by
    simp only [reify] at hd ⊢
    split at hd
    · rename_i r hr; rw [reifyL_mono h hr]; exact hd
    · cases hd
  | .nil, x, hd => by simp only [reify] at hd ⊢; exact hd
  | .int k n, x, hd => by simp only [reify] at hd ⊢; exact hd
  | .bool b, x, hd => by simp only [reify] at hd ⊢; exact hd
  | .str t, x, hd => by simp only [reify] at hd ⊢; exact hd
  | .sc v, x, hd => by simp only [reify] at hd ⊢; exact hd
  | .ro l, x, hd => by simp only [reify] at hd ⊢; exact hd
  | .rp e j, x, hd => by simp only [reify] at hd ⊢; exact hd
  | .undef, x, hd => by simp only [reify] at hd ⊢; exact hd
theorem reifyL_mono (h : Le s s') : ∀ {l r : List D}, reifyL E s l = some r → reifyL E s' l = some r
  | [], r, hd => by simp only [reifyL] at hd ⊢; exact hd
  | d :: l, r, hd => by
    simp only [reifyL] at hd ⊢
    split at hd
    · rename_i x q h1 h2
      rw [reify_mono h h1, reifyL_mono h h2]; exact hd
    · cases hd
end
mutual
theorem inRows_mono (h : Le s s') : ∀ {d : D}, inRows s d → inRows s' d
  | .sl b z i n, hd => by
    simp only [inRows] at hd ⊢
    split at hd
    · rename_i B hB; simp only [h.hp _ _ hB]; exact hd
    · exact hd.elim
  | .agg l, hd => by simp only [inRows] at hd ⊢; exact inRowsL_mono h hd
  | .tup l, hd => by simp only [inRows] at hd ⊢; exact inRowsL_mono h hd
  | .fn f l, hd => by simp only [inRows] at hd ⊢; exact inRowsL_mono h hd
  | .ptr b z i j, _ => by simp only [inRows]
  | .nil, _ => by simp only [inRows]
  | .int k n, _ => by simp only [inRows]
  | .bool b, _ => by simp only [inRows]
  | .str t, _ => by simp only [inRows]
  | .sc v, _ => by simp only [inRows]
  | .ro l, _ => by simp only [inRows]
  | .rp e j, _ => by simp only [inRows]
  | .undef, _ => by simp only [inRows]
theorem inRowsL_mono (h : Le s s') : ∀ {l : List D}, inRowsL s l → inRowsL s' l
  | [], _ => by simp only [inRowsL]
  | d :: l, hd => by simp only [inRowsL] at hd ⊢; exact ⟨inRows_mono h hd.1, inRowsL_mono h hd.2⟩
end
theorem getE_mono (h : Le s s') {x : Operand} {K K' : D → Prop} (hK : ∀ d, K d → K' d) (hd : getE E s x K) : getE E s' x K' := by
  unfold getE at hd ⊢
  split at hd
  · rename_i d h1; rw [opnd_mono h h1]; exact hK _ hd
  · exact hd.elim
theorem getsE_mono (h : Le s s') {x : List Operand} {K K' : List D → Prop} (hK : ∀ d, K d → K' d) (hd : getsE E s x K) : getsE E s' x K' := by
  unfold getsE at hd ⊢
  split at hd
  · rename_i d h1; rw [opnds_mono h h1]; exact hK _ hd
  · exact hd.elim
theorem partsK_mono (h : Le s s') {x : List (Nat × Operand)} {K K' : List (Nat × D) → Prop} (hK : ∀ d, K d → K' d) (hd : partsK E s x K) : partsK E s' x K' := by
  unfold partsK at hd ⊢
  split at hd
  · rename_i d h1; rw [partsE_mono h h1]; exact hK _ hd
  · exact hd.elim
theorem outE_mono (hE : EnvOk P E) (h : Le s s') {o : Op} {K : D → Option Blk → Prop} (hd : outE E o s K) : outE E o s' K := by
  cases o with
  | move x => exact getE_mono h (fun _ h => h) hd
  | pick c x y =>
    simp only [outE] at hd ⊢
    refine getE_mono h (fun d hd => ?_) hd
    split at hd
    · split at hd
      · exact getE_mono h (fun _ h => h) hd
      · exact getE_mono h (fun _ h => h) hd
    · exact hd
  | alloc T => exact hd
  | box T x => exact getE_mono h (fun _ h => h) hd
  | build T ps => exact partsK_mono h (fun _ h => h) hd
  | buildSlice T n ps => exact partsK_mono h (fun _ h => h) hd
  | load T x => exact getE_mono h (fun _ hq => loadE_mono h hq) hd
  | nilCheck x => exact getE_mono h (fun _ h => h) hd
  | binOp op T x y T' =>
    simp only [outE] at hd ⊢
    split at hd
    · exact hd.elim
    · exact getE_mono h (fun _ hq => getE_mono h (fun _ h => h) hq) hd
  | unOp op T x => exact getE_mono h (fun _ h => h) hd
  | convert S T x => exact getE_mono h (fun _ h => h) hd
  | makeFunc fn first caps =>
    cases fn with
    | func f =>
      simp only [outE] at hd ⊢
      split at hd
      · exact getsE_mono h (fun _ h => h) hd
      · exact hd.elim
    | _ => exact hd.elim
  | makeSlice T n c => exact getE_mono h (fun _ hq => getE_mono h (fun _ h => h) hq) hd
  | slice T x lo hi mx =>
    cases mx with
    | none => exact getE_mono h (fun _ hq => sliceE_mono h hq) hd
    | some m => exact hd.elim
  | fieldAddr T x f => exact getE_mono h (fun _ h => h) hd
  | field T x f => exact getE_mono h (fun _ h => h) hd
  | indexAddr T x i => exact getE_mono h (fun _ hq => getE_mono h (fun _ h => h) hq) hd
  | index T x i => exact getE_mono h (fun _ hq => getE_mono h (fun _ h => h) hq) hd
  | extract x i => exact getE_mono h (fun _ h => h) hd
  | call c =>
    obtain ⟨callee, args, tys⟩ := c
    simp only [outE] at hd ⊢
    cases callee with
    | invoke r m => exact hd.elim
    | builtin b =>
      simp only at hd ⊢
      refine getsE_mono h (fun ds hq => ?_) hd
      split at hq
      · exact hq
      · exact hq
      · exact hq
      · rename_i T T' x y _ _
        split at hq
        · rename_i hT
          rw [if_pos hT]
          split at hq
          · rename_i e z by_ d hk
            try simp only [hk]
            split at hq
            · rename_i xs hl
              simp only [listE_mono h hl]
              refine ⟨?_, hq.2⟩
              have := hq.1
              rw [hE.F] at this ⊢
              simp only [fns] at this ⊢
              exact ⟨inRow_mono h this.1, this.2⟩
            · exact hq.elim
          · exact hq.elim
        · exact hq.elim
      · exact hq.elim
    | value f =>
      simp only at hd ⊢
      split at hd
      · rename_i g caps hf
        rw [opnd_mono h hf]
        refine getsE_mono h (fun ds hq => ?_) hd
        split at hq
        · rename_i ds' hr
          simp only [reifyL_mono h hr]
          obtain ⟨d, ext, h1, h2, h3⟩ := hq
          refine ⟨d, ext, h1, ?_, h3⟩
          rw [hE.F] at h2 ⊢
          simp only [fns] at h2 ⊢
          exact ⟨inRowsL_mono h h2.1, h2.2⟩
        · exact hq.elim
      · exact hd.elim
  | _ => exact hd.elim
end Go.Proofs.YtppmomobjjpljaaDoor.E
end

/- Part KD2. -/
section
/- A calculus for Go functions over an abstract memory (regions that draw their order, part 2): a quiet operation has one outcome, and comes to it. Conditions: those of each theorem. -/
namespace Go.Proofs.YtppmomobjjpljaaDoor.E
open Go Go.RowKit
set_option linter.unusedVariables false
set_option linter.unusedSimpArgs false
variable {P : Program} {E : Env} {φ : Nat → Nat} {w : World} {C : Ctx} {s : St} {a : Act} {o : Oper}

/-- A form that asks K of one thing alone. -/
def One {α : Type} (T : (α → Prop) → Prop) : Prop := ∀ K, T K → ∃ x, T (fun y => y = x) ∧ K x
theorem one_elem {p : D} {K : D × Nat → Prop} (h : elemE s p fun e j => K (e, j)) : ∃ x, (elemE s p fun e j => (e, j) = x) ∧ K x := by
  unfold elemE at h ⊢
  split at h
  · split at h
    · split at h
      · rename_i hz
        simp only [hz, if_true]
        split at h
        · split at h
          · exact ⟨_, rfl, h⟩
          · exact h.elim
        · obtain ⟨e, h1, h2⟩ := h
          exact ⟨(e, _), ⟨e, h1, rfl⟩, h2⟩
      · exact h.elim
    · exact h.elim
  · exact ⟨_, rfl, h⟩
  · exact h.elim
theorem one_load {T : TypeId} {p : D} : One (fun K : D → Prop => loadE E T s p K) := by
  intro K h
  unfold loadE at h ⊢
  split at h
  · rename_i g n hsz
    obtain ⟨⟨e, j⟩, h1, h2⟩ := one_elem (K := fun x => match takeE g n x.1 x.2 with | some y => K y | none => False) h
    simp only at h2
    split at h2
    · rename_i y hy
      refine ⟨y, ?_, h2⟩
      have : ∀ {K1 K2 : D → Nat → Prop}, (∀ e j, K1 e j → K2 e j) → elemE s p K1 → elemE s p K2 := by
        intro K1 K2 hK hh
        unfold elemE at hh ⊢
        split at hh
        · split at hh
          · split at hh
            · rename_i hz
              simp only [hz, if_true]
              split at hh
              · split at hh
                · exact hK _ _ hh
                · exact hh.elim
              · obtain ⟨e, h1, h2⟩ := hh; exact ⟨e, h1, hK _ _ h2⟩
            · exact hh.elim
          · exact hh.elim
        · exact hK _ _ hh
        · exact hh.elim
      refine this (fun e' j' he => ?_) h1
      cases he
      rw [hy]
    · exact h2.elim
  · exact h.elim
theorem one_bin {op : BinOp} {T : TypeId} {x y : D} : One (fun K : D → Prop => binE E op T x y K) := by
  intro K h
  unfold binE at h ⊢
  split at h
  · exact ⟨_, ⟨h.1, rfl⟩, h.2⟩
  · exact ⟨_, ⟨h.1, rfl⟩, h.2⟩
  all_goals first
    | exact h.elim
    | (split at h
       · rename_i hk
         first
           | (subst hk; simp only [if_true]; exact ⟨_, ⟨h.1, rfl⟩, h.2⟩)
           | (subst hk; simp only [if_true]; exact ⟨_, rfl, h⟩)
           | (simp only [hk]; exact ⟨_, rfl, h⟩)
           | exact ⟨_, ⟨h.1, rfl⟩, h.2⟩
           | exact ⟨_, rfl, h⟩
           | (split at h
              · rename_i hb; try simp only [hb]
                exact ⟨_, rfl, h⟩
              · rename_i hb; try simp only [hb]
                exact ⟨_, rfl, h⟩)
       · first
           | exact h.elim
           | exact ⟨_, rfl, h⟩)
    | exact ⟨_, ⟨h.1, rfl⟩, h.2⟩
    | exact ⟨_, rfl, h⟩
    | (obtain ⟨r, h1, h2⟩ := h; exact ⟨_, ⟨r, h1, rfl⟩, h2⟩)
theorem one_un {op : UnOp} {x : D} : One (fun K : D → Prop => unE E op x K) := by
  intro K h
  unfold unE at h ⊢
  split at h
  · split at h
    · exact ⟨_, rfl, h⟩
    · exact ⟨_, rfl, h⟩
  · exact ⟨_, rfl, h⟩
  · exact ⟨_, rfl, h⟩
  · exact h.elim
theorem one_conv {S T : TypeId} {x : D} : One (fun K : D → Prop => convE E S T x K) := by
  intro K h
  unfold convE at h ⊢
  split at h
  · exact ⟨_, rfl, h⟩
  · exact h.elim
theorem one_len {T : TypeId} {x : D} : One (fun K : D → Prop => lenE E T x K) := by
  intro K h
  unfold lenE at h ⊢
  split at h <;> first | exact h.elim | exact ⟨_, rfl, h⟩
theorem one_bound {o : Option Operand} {d : Nat} {β : Type} {F : Nat → (β → Prop) → Prop} (hF : ∀ n, One (F n)) : One (fun K : β → Prop => boundE E s o d fun n => F n K) := by
  intro K h
  unfold boundE at h ⊢
  split at h
  · exact hF _ K h
  · split at h
    · rename_i hx
      simp only [hx]
      obtain ⟨x, h1, h2⟩ := hF _ K h.2
      exact ⟨x, ⟨h.1, h1⟩, h2⟩
    · exact h.elim
theorem one_cut (hE : EnvOk P E) {z b i h n : Nat} {lo : Option Operand} : One (fun K : D → Prop => boundE E s lo 0 fun l => E.F.pr (fun _ => l ≤ h ∧ h ≤ n) ∧
          (l = 0 → K (.sl b z i h)) ∧ (0 < l → l = h → K (.ro [])) ∧ (0 < l → l < h → K (.sl b z (E.F.am i 1 l) (E.F.sb h l)))) := by
  refine one_bound (F := fun l (K : D → Prop) => E.F.pr (fun _ => l ≤ h ∧ h ≤ n) ∧
          (l = 0 → K (.sl b z i h)) ∧ (0 < l → l = h → K (.ro [])) ∧ (0 < l → l < h → K (.sl b z (E.F.am i 1 l) (E.F.sb h l)))) fun l K hh => ?_
  obtain ⟨h1, h2, h3, h4⟩ := hh
  rcases Nat.eq_zero_or_pos l with h0 | h0
  · exact ⟨_, ⟨h1, fun _ => rfl, fun h => absurd h (by omega), fun h => absurd h (by omega)⟩, h2 h0⟩
  · rcases Nat.lt_trichotomy l h with hl | hl | hl
    · exact ⟨_, ⟨h1, fun h => absurd h (by omega), fun _ h => absurd h (by omega), fun _ _ => rfl⟩, h4 h0 hl⟩
    · exact ⟨_, ⟨h1, fun h => absurd h (by omega), fun _ _ => rfl, fun _ h => absurd h (by omega)⟩, h3 h0 hl⟩
    · rw [hE.F] at h1; simp only [fns] at h1; omega
theorem one_slice (hE : EnvOk P E) {T : TypeId} {x : D} {lo hi : Option Operand} : One (fun K : D → Prop => sliceE E T s x lo hi K) := by
  intro K h
  unfold sliceE at h ⊢
  split at h
  · rename_i e z by_ d b z' i n hk
    by_cases hz : z = z'
    · subst hz
      simp only [if_true] at h ⊢
      cases lo with
      | none => exact one_bound (F := fun h (K : D → Prop) => E.F.pr (fun _ => h ≤ n) ∧ K (.sl b z i h)) (fun _ _ hh => ⟨_, ⟨hh.1, rfl⟩, hh.2⟩) K h
      | some lo => exact one_bound (F := fun h (K : D → Prop) => boundE E s (some lo) 0 fun l => E.F.pr (fun _ => l ≤ h ∧ h ≤ n) ∧
          (l = 0 → K (.sl b z i h)) ∧ (0 < l → l = h → K (.ro [])) ∧ (0 < l → l < h → K (.sl b z (E.F.am i 1 l) (E.F.sb h l)))) (fun _ => one_cut hE) K h
    · simp only [hz, if_false] at h
      unfold boundE at h
      split at h
      · exact h.elim
      · split at h
        · exact h.2.elim
        · exact h.elim
  · rename_i e z by_ d xs hk
    exact one_bound (F := fun h (K : D → Prop) => boundE E s lo 0 fun l => E.F.pr (fun _ => l ≤ h ∧ h ≤ xs.length ∧ (∀ d, d ∈ xs → d.cells.length = z)) ∧ K (.ro (E.F.sub xs l (E.F.sb h l))))
      (fun h => one_bound (F := fun l (K : D → Prop) => E.F.pr (fun _ => l ≤ h ∧ h ≤ xs.length ∧ (∀ d, d ∈ xs → d.cells.length = z)) ∧ K (.ro (E.F.sub xs l (E.F.sb h l)))) fun _ _ hh => ⟨_, ⟨hh.1, rfl⟩, hh.2⟩) K h
  · rename_i t hk
    exact one_bound (F := fun h (K : D → Prop) => boundE E s lo 0 fun l => E.F.pr (fun _ => l ≤ h ∧ h ≤ t.size) ∧ K (.str (E.F.ext t l h)))
      (fun h => one_bound (F := fun l (K : D → Prop) => E.F.pr (fun _ => l ≤ h ∧ h ≤ t.size) ∧ K (.str (E.F.ext t l h))) fun _ _ hh => ⟨_, ⟨hh.1, rfl⟩, hh.2⟩) K h
  · exact h.elim
theorem one_build {T : TypeId} {ps : List (Nat × D)} : One (fun K : D → Prop => buildE E T ps K) := by
  intro K h
  unfold buildE at h ⊢
  split at h
  · split at h
    · rename_i hc; simp only [hc]; exact ⟨_, rfl, h⟩
    · exact h.elim
  · split at h
    · rename_i hc; simp only [hc]; exact ⟨_, rfl, h⟩
    · exact h.elim
  · exact h.elim
theorem one_indexAddr {T : TypeId} {x i : D} : One (fun K : D → Prop => indexAddrE E T s x i K) := by
  intro K h
  unfold indexAddrE at h ⊢
  split at h
  · split at h
    · rename_i hz; subst hz; simp only [if_true]; exact ⟨_, ⟨h.1, rfl⟩, h.2⟩
    · exact h.elim
  · obtain ⟨h1, e, h2, h3, h4⟩ := h
    exact ⟨_, ⟨h1, e, h2, h3, rfl⟩, h4⟩
  · obtain ⟨k, h1, h2, h3⟩ := h
    exact ⟨_, ⟨k, h1, h2, rfl⟩, h3⟩
  · obtain ⟨k, h1, h2, h3⟩ := h
    exact ⟨_, ⟨k, h1, h2, rfl⟩, h3⟩
  · exact h.elim
theorem one_index {T : TypeId} {x i : D} : One (fun K : D → Prop => indexE E T x i K) := by
  intro K h
  unfold indexE at h ⊢
  split at h
  · obtain ⟨k, h1, h2, d, h3, h4⟩ := h
    exact ⟨_, ⟨k, h1, h2, d, h3, rfl⟩, h4⟩
  · obtain ⟨h1, b, h2, h3⟩ := h
    exact ⟨_, ⟨h1, b, h2, rfl⟩, h3⟩
  · exact h.elim
end Go.Proofs.YtppmomobjjpljaaDoor.E
end

/- Part KD3. -/
section
/- A calculus for Go functions over an abstract memory (regions that draw their order, part 3): a quiet operation has one outcome; it comes to it. Conditions: those of each theorem. -/
namespace Go.Proofs.YtppmomobjjpljaaDoor.E
open Go Go.RowKit
set_option linter.unusedVariables false
set_option linter.unusedSimpArgs false
variable {P : Program} {E : Env} {φ : Nat → Nat} {w : World} {C : Ctx} {s : St} {a : Act} {o : Oper}

abbrev OB := D × Option Blk
theorem one_none {F : (D → Prop) → Prop} (h : One F) : One (fun K : OB → Prop => F fun d => K (d, none)) := by
  intro K hh
  obtain ⟨x, h1, h2⟩ := h _ hh
  refine ⟨(x, none), ?_, h2⟩
  have : (fun d : D => (d, (none : Option Blk)) = (x, none)) = fun d => d = x := by
    funext d; simp
  show F fun d => (d, none) = (x, none)
  rw [this]; exact h1
theorem one_getE {α : Type} {x : Operand} {F : D → (α → Prop) → Prop} (h : ∀ d, One (F d)) : One (fun K : α → Prop => getE E s x fun d => F d K) := by
  intro K hh
  unfold getE at hh ⊢
  split at hh
  · rename_i d hd; exact h d K hh
  · exact hh.elim
theorem one_getsE {α : Type} {x : List Operand} {F : List D → (α → Prop) → Prop} (h : ∀ d, One (F d)) : One (fun K : α → Prop => getsE E s x fun d => F d K) := by
  intro K hh
  unfold getsE at hh ⊢
  split at hh
  · rename_i d hd; exact h d K hh
  · exact hh.elim
theorem one_partsK {α : Type} {x : List (Nat × Operand)} {F : List (Nat × D) → (α → Prop) → Prop} (h : ∀ d, One (F d)) : One (fun K : α → Prop => partsK E s x fun d => F d K) := by
  intro K hh
  unfold partsK at hh ⊢
  split at hh
  · rename_i d hd; exact h d K hh
  · exact hh.elim
theorem one_K {α : Type} (x : α) : One (fun K : α → Prop => K x) := fun K h => ⟨x, rfl, h⟩
theorem one_and {α : Type} {p : Prop} {F : (α → Prop) → Prop} (h : One F) : One (fun K : α → Prop => p ∧ F K) := fun K hh => by
  obtain ⟨x, h1, h2⟩ := h K hh.2
  exact ⟨x, ⟨hh.1, h1⟩, h2⟩
theorem one_if {α : Type} {c : Prop} [Decidable c] {F : (α → Prop) → Prop} (h : c → One F) : One (fun K : α → Prop => if c then F K else False) := fun K hh => by
  by_cases hc : c
  · simp only [if_pos hc] at hh ⊢; exact h hc K hh
  · simp only [if_neg hc] at hh
theorem one_False {α : Type} : One (fun _ : α → Prop => False) := fun _ h => h.elim
theorem one_ex {α β : Type} {F : β → (α → Prop) → Prop} (h : ∀ b, One (F b)) : One (fun K : α → Prop => ∃ b, F b K) := fun K hh => by
  obtain ⟨b, hb⟩ := hh
  obtain ⟨x, h1, h2⟩ := h b K hb
  exact ⟨x, ⟨b, h1⟩, h2⟩
theorem one_out (hE : EnvOk P E) {o : Op} : One (fun K : OB → Prop => outE E o s fun d B => K (d, B)) := by
  cases o with
  | move x => exact one_getE fun _ => one_K _
  | pick c x y =>
    refine one_getE fun d => ?_
    split
    · split
      · exact one_getE fun _ => one_K _
      · exact one_getE fun _ => one_K _
    · exact one_False
  | alloc T => simp only [outE]; split; exact one_K _; exact one_False
  | box T x => exact one_getE fun d => one_if fun _ => one_K _
  | build T ps => exact one_partsK fun _ => one_none one_build
  | buildSlice T n ps =>
    refine one_partsK fun _ => ?_
    split
    · split
      · split
        · exact one_K _
        · exact one_if fun _ => one_K _
      · exact one_False
    · exact one_False
  | load T x => exact one_getE fun _ => one_none one_load
  | nilCheck x =>
    refine one_getE fun d => ?_
    split
    · exact one_K _
    · exact one_K _
    · exact one_K _
    · exact one_False
  | binOp op T x y T' =>
    simp only [outE]
    cases nilC y
    · exact one_getE fun _ => one_getE fun _ => one_none one_bin
    · exact one_False
  | unOp op T x => exact one_getE fun _ => one_none one_un
  | convert S T x => exact one_getE fun _ => one_none one_conv
  | makeFunc fn first caps =>
    cases fn with
    | func f =>
      simp only [outE]
      split
      · exact one_getsE fun _ => one_K _
      · exact one_False
    | _ => exact one_False
  | makeSlice T n c =>
    refine one_getE fun _ => one_getE fun _ => ?_
    split
    · exact one_and (one_K _)
    · exact one_False
  | slice T x lo hi mx =>
    cases mx with
    | none => exact one_getE fun _ => one_none (one_slice hE)
    | some m => exact one_False
  | fieldAddr T x f =>
    refine one_getE fun _ => ?_
    split
    · split
      · exact one_K _
      · exact one_K _
      · exact one_False
    · exact one_False
  | field T x f =>
    refine one_getE fun _ => ?_
    split
    · split
      · split
        · exact one_K _
        · exact one_False
      · exact one_False
    · exact one_False
  | indexAddr T x i => exact one_getE fun _ => one_getE fun _ => one_none one_indexAddr
  | index T x i => exact one_getE fun _ => one_getE fun _ => one_none one_index
  | extract x i =>
    refine one_getE fun _ => ?_
    split
    · split
      · exact one_K _
      · exact one_False
    · exact one_False
  | call c =>
    obtain ⟨callee, args, tys⟩ := c
    simp only [outE]
    cases callee with
    | invoke r m => exact one_False
    | builtin b =>
      refine one_getsE fun ds => ?_
      split
      · exact one_none one_len
      · split
        · exact one_K _
        · exact one_False
      · split
        · exact one_K _
        · exact one_False
      · refine one_if fun _ => ?_
        split
        · split
          · refine one_and ?_
            split
            · refine one_and ?_
              rename_i xs _ _
              intro K hh
              by_cases hx : xs = []
              · exact ⟨_, ⟨fun _ => rfl, fun h => absurd hx h⟩, hh.1 hx⟩
              · exact ⟨_, ⟨fun h => absurd h hx, fun _ => rfl⟩, hh.2 hx⟩
            · exact one_False
          · exact one_False
        · exact one_False
      · exact one_False
    | value f =>
      simp only
      split
      · refine one_getsE fun ds => ?_
        split
        · refine one_ex fun d => one_ex fun ext => one_and (one_and ?_)
          split
          · exact one_and (one_K _)
          · exact one_and (one_K _)
          · exact one_False
        · exact one_False
      · exact one_False
  | _ => exact one_False

/-- What an operation with outcome d, B leaves. -/
def postE (s : St) (dst : Option Tmp) (d : D) : Option Blk → St
  | none => s.set dst d
  | some B => (s.new B).set dst (d.up s.nx)
def okOut (d : D) : Option Blk → Prop
  | none => True
  | some B => d.lt 1 = true ∧ B.flat = true
def Post (s : St) (dst : Option Tmp) (K : D → Option Blk → Prop) (s' : St) : Prop := ∃ d B, K d B ∧ s' = postE s dst d B ∧ okOut d B
theorem post_none {dst : Option Tmp} {K : D → Option Blk → Prop} {d : D} (h : K d none) : Post s dst K (s.set dst d) := ⟨d, none, h, rfl, trivial⟩
theorem post_some {dst : Option Tmp} {K : D → Option Blk → Prop} {d : D} {B : Blk} (h : K d (some B)) (h1 : d.lt 1 = true) (h2 : B.flat = true) : Post s dst K ((s.new B).set dst (d.up s.nx)) := ⟨d, some B, h, rfl, h1, h2⟩
theorem getE_imp {x : Operand} {K K' : D → Prop} (hK : ∀ d, K d → K' d) (h : getE E s x K) : getE E s x K' := by
  unfold getE at h ⊢
  split at h
  · exact hK _ h
  · exact h.elim
theorem getsE_imp {x : List Operand} {K K' : List D → Prop} (hK : ∀ d, K d → K' d) (h : getsE E s x K) : getsE E s x K' := by
  unfold getsE at h ⊢
  split at h
  · exact hK _ h
  · exact h.elim
theorem partsK_imp {x : List (Nat × Operand)} {K K' : List (Nat × D) → Prop} (hK : ∀ d, K d → K' d) (h : partsK E s x K) : partsK E s x K' := by
  unfold partsK at h ⊢
  split at h
  · exact hK _ h
  · exact h.elim
theorem elemE_imp {p : D} {K K' : D → Nat → Prop} (hK : ∀ e j, K e j → K' e j) (hh : elemE s p K) : elemE s p K' := by
  unfold elemE at hh ⊢
  split at hh
  · split at hh
    · split at hh
      · rename_i hz
        simp only [hz, if_true]
        split at hh
        · split at hh
          · exact hK _ _ hh
          · exact hh.elim
        · obtain ⟨e, h1, h2⟩ := hh; exact ⟨e, h1, hK _ _ h2⟩
      · exact hh.elim
    · exact hh.elim
  · exact hK _ _ hh
  · exact hh.elim
theorem loadE_imp {T : TypeId} {p : D} {K K' : D → Prop} (hK : ∀ d, K d → K' d) (h : loadE E T s p K) : loadE E T s p K' := by
  unfold loadE at h ⊢
  split at h
  · refine elemE_imp (fun e j hh => ?_) h
    split at hh
    · exact hK _ hh
    · exact hh.elim
  · exact h.elim
theorem binE_imp {op : BinOp} {T : TypeId} {x y : D} {K K' : D → Prop} (hK : ∀ d, K d → K' d) (h : binE E op T x y K) : binE E op T x y K' := by
  unfold binE at h ⊢
  split at h
  · exact ⟨h.1, hK _ h.2⟩
  · exact ⟨h.1, hK _ h.2⟩
  all_goals first
    | exact h.elim
    | (split at h
       · rename_i hk
         first
           | (subst hk; simp only [if_true]; exact ⟨h.1, hK _ h.2⟩)
           | (subst hk; simp only [if_true]; exact hK _ h)
           | (simp only [hk]; exact hK _ h)
           | exact ⟨h.1, hK _ h.2⟩
           | exact hK _ h
           | (split at h
              · rename_i hb; try simp only [hb]
                exact hK _ h
              · rename_i hb; try simp only [hb]
                exact hK _ h)
       · first
           | exact h.elim
           | exact hK _ h)
    | exact ⟨h.1, hK _ h.2⟩
    | exact hK _ h
    | (obtain ⟨r, h1, h2⟩ := h; exact ⟨r, h1, hK _ h2⟩)
theorem unE_imp {op : UnOp} {x : D} {K K' : D → Prop} (hK : ∀ d, K d → K' d) (h : unE E op x K) : unE E op x K' := by
  unfold unE at h ⊢
  split at h
  · split at h
    · exact hK _ h
    · exact hK _ h
  · exact hK _ h
  · exact hK _ h
  · exact h.elim
theorem convE_imp {S T : TypeId} {x : D} {K K' : D → Prop} (hK : ∀ d, K d → K' d) (h : convE E S T x K) : convE E S T x K' := by
  unfold convE at h ⊢
  split at h
  · exact hK _ h
  · exact h.elim
theorem lenE_imp {T : TypeId} {x : D} {K K' : D → Prop} (hK : ∀ d, K d → K' d) (h : lenE E T x K) : lenE E T x K' := by
  unfold lenE at h ⊢
  split at h <;> first | exact h.elim | exact hK _ h
theorem sliceE_imp {T : TypeId} {x : D} {lo hi : Option Operand} {K K' : D → Prop} (hK : ∀ d, K d → K' d) (h : sliceE E T s x lo hi K) : sliceE E T s x lo hi K' := by
  unfold sliceE at h ⊢
  split at h
  · refine boundE_imp (fun n hn => ?_) h
    split at hn
    · rename_i hz
      rw [if_pos hz]
      split at hn
      · exact ⟨hn.1, hK _ hn.2⟩
      · refine boundE_imp (fun l hl => ?_) hn
        exact ⟨hl.1, fun q => hK _ (hl.2.1 q), fun q q' => hK _ (hl.2.2.1 q q'), fun q q' => hK _ (hl.2.2.2 q q')⟩
    · exact hn.elim
  · exact boundE_imp (fun n hn => boundE_imp (fun l hl => ⟨hl.1, hK _ hl.2⟩) hn) h
  · exact boundE_imp (fun n hn => boundE_imp (fun l hl => ⟨hl.1, hK _ hl.2⟩) hn) h
  · exact h.elim
theorem buildE_imp {T : TypeId} {ps : List (Nat × D)} {K K' : D → Prop} (hK : ∀ d, K d → K' d) (h : buildE E T ps K) : buildE E T ps K' := by
  unfold buildE at h ⊢
  split at h
  · split at h
    · rename_i hc; try simp only [hc]
      exact hK _ h
    · exact h.elim
  · split at h
    · rename_i hc; try simp only [hc]
      exact hK _ h
    · exact h.elim
  · exact h.elim
theorem indexAddrE_imp {T : TypeId} {x i : D} {K K' : D → Prop} (hK : ∀ d, K d → K' d) (h : indexAddrE E T s x i K) : indexAddrE E T s x i K' := by
  unfold indexAddrE at h ⊢
  split at h
  · split at h
    · rename_i hz; subst hz; simp only [if_true]; exact ⟨h.1, hK _ h.2⟩
    · exact h.elim
  · obtain ⟨h1, e, h2, h3, h4⟩ := h
    exact ⟨h1, e, h2, h3, hK _ h4⟩
  · obtain ⟨k, h1, h2, h3⟩ := h
    exact ⟨k, h1, h2, hK _ h3⟩
  · obtain ⟨k, h1, h2, h3⟩ := h
    exact ⟨k, h1, h2, hK _ h3⟩
  · exact h.elim
theorem indexE_imp {T : TypeId} {x i : D} {K K' : D → Prop} (hK : ∀ d, K d → K' d) (h : indexE E T x i K) : indexE E T x i K' := by
  unfold indexE at h ⊢
  split at h
  · obtain ⟨k, h1, h2, d, h3, h4⟩ := h
    exact ⟨k, h1, h2, d, h3, hK _ h4⟩
  · obtain ⟨h1, b, h2, h3⟩ := h
    exact ⟨h1, b, h2, hK _ h3⟩
  · exact h.elim
mutual
theorem lt_up {k : Nat} : ∀ {d : D}, d.lt 0 = true → d.up k = d
  | .agg l, h => by simp only [D.lt] at h; simp only [D.up, ltL_up h]
  | .tup l, h => by simp only [D.lt] at h; simp only [D.up, ltL_up h]
  | .fn f l, h => by simp only [D.lt] at h; simp only [D.up, ltL_up h]
  | .sl b z i n, h => by simp [D.lt] at h
  | .ptr b z i j, h => by simp [D.lt] at h
  | .nil, h => by simp only [D.up]
  | .int k n, h => by simp only [D.up]
  | .bool b, h => by simp only [D.up]
  | .str t, h => by simp only [D.up]
  | .sc v, h => by simp only [D.up]
  | .ro l, h => by simp only [D.up]
  | .rp e j, h => by simp only [D.up]
  | .undef, h => by simp only [D.up]
theorem ltL_up {k : Nat} : ∀ {l : List D}, D.ltL 0 l = true → D.upL k l = l
  | [], h => by simp only [D.upL]
  | d :: l, h => by simp only [D.ltL, Bool.and_eq_true] at h; simp only [D.upL, lt_up h.1, ltL_up h.2]
end
theorem out_op (hE : EnvOk P E) {o : Op} {dst : Option Tmp} {K : D → Option Blk → Prop} (h : outE E o s K) : opE E o dst s (Post s dst K) := by
  have pn : ∀ d, K d none → Post s dst K (s.set dst d) := fun d h => post_none h
  cases o with
  | move x => exact getE_imp pn h
  | pick c x y =>
    simp only [outE, opE] at h ⊢
    refine getE_imp (fun d hd => ?_) h
    split at hd
    · split at hd
      · exact getE_imp pn hd
      · exact getE_imp pn hd
    · exact hd.elim
  | alloc T =>
    simp only [outE, opE] at h ⊢
    split at h
    · rename_i z hz
      obtain ⟨i, v, h1, h2, h3, h4, h5⟩ := zero_rd (hE.zero hz)
      rw [h4]
      exact post_some h rfl rfl
    · exact h.elim
  | box T x =>
    simp only [outE, opE] at h ⊢
    refine getE_imp (fun d hd => ?_) h
    split at hd
    · rename_i hc
      rw [if_pos hc.1, hc.2]
      exact post_some hd rfl rfl
    · exact hd.elim
  | build T ps => exact partsK_imp (fun _ h => buildE_imp pn h) h
  | buildSlice T n ps =>
    simp only [outE, opE] at h ⊢
    refine partsK_imp (fun ds hd => ?_) h
    unfold buildSliceE
    split at hd
    · rename_i e k by_ z hk
      obtain ⟨_, _, _, _, _, _, _, _, _, _, _, hzf, _⟩ := kd_slice (hE.kd hk)
      split at hd
      · rename_i els he
        split at hd
        · exact pn _ hd
        · split at hd
          · rename_i hc
            simp only [if_pos hc.1, hc.2, hzf, Bool.and_self]
            exact post_some hd rfl rfl
          · exact hd.elim
      · exact hd.elim
    · exact hd.elim
  | load T x => exact getE_imp (fun _ h => loadE_imp pn h) h
  | nilCheck x =>
    simp only [outE, opE] at h ⊢
    refine getE_imp (fun d hd => ?_) h
    split at hd
    · exact pn _ hd
    · exact pn _ hd
    · exact pn _ hd
    · exact hd.elim
  | binOp op T x y T' =>
    cases hn : nilC y
    rotate_left
    · simp only [outE, hn] at h
    · simp only [outE, opE, hn] at h ⊢
      exact getE_imp (fun _ h => getE_imp (fun _ h => binE_imp pn h) h) h
  | unOp op T x => exact getE_imp (fun _ h => unE_imp pn h) h
  | convert S T x => exact getE_imp (fun _ h => convE_imp pn h) h
  | makeFunc fn first caps =>
    cases fn with
    | func f =>
      simp only [outE, opE] at h ⊢
      split at h
      · exact getsE_imp (fun _ h => pn _ h) h
      · exact h.elim
    | _ => exact h.elim
  | makeSlice T n c =>
    simp only [outE, opE] at h ⊢
    refine getE_imp (fun _ h => getE_imp (fun _ h => ?_) h) h
    unfold makeE
    split at h
    · rename_i hk _
      obtain ⟨_, _, _, _, _, _, _, _, _, _, _, hzf, _⟩ := kd_slice (hE.kd (by assumption))
      rw [hzf]
      exact ⟨h.1, post_some h.2 rfl rfl⟩
    · exact h.elim
  | slice T x lo hi mx =>
    cases mx with
    | none => exact getE_imp (fun _ h => sliceE_imp pn h) h
    | some m => exact h.elim
  | fieldAddr T x f =>
    simp only [outE, opE] at h ⊢
    refine getE_imp (fun d hd => ?_) h
    split at hd
    · split at hd
      · exact pn _ hd
      · exact pn _ hd
      · exact hd.elim
    · exact hd.elim
  | field T x f =>
    simp only [outE, opE] at h ⊢
    refine getE_imp (fun d hd => ?_) h
    split at hd
    · split at hd
      · split at hd
        · rename_i ht
          try simp only [ht]
          exact pn _ hd
        · exact hd.elim
      · exact hd.elim
    · exact hd.elim
  | indexAddr T x i => exact getE_imp (fun _ h => getE_imp (fun _ h => indexAddrE_imp pn h) h) h
  | index T x i => exact getE_imp (fun _ h => getE_imp (fun _ h => indexE_imp pn h) h) h
  | extract x i =>
    simp only [outE, opE] at h ⊢
    refine getE_imp (fun d hd => ?_) h
    split at hd
    · split at hd
      · rename_i hc; try simp only [hc]
        exact pn _ hd
      · exact hd.elim
    · exact hd.elim
  | call c =>
    obtain ⟨callee, args, tys⟩ := c
    simp only [outE, opE, calleeE] at h ⊢
    cases callee with
    | invoke r m => exact h.elim
    | builtin b =>
      simp only at h ⊢
      refine getsE_imp (fun ds hq => ?_) h
      unfold builtinE
      generalize tys.toList = tl at hq ⊢
      split at hq
      · exact lenE_imp pn hq
      · split at hq
        · rename_i hm; try simp only [hm]
          exact pn _ hq
        · exact hq.elim
      · split at hq
        · rename_i hm; try simp only [hm]
          exact pn _ hq
        · exact hq.elim
      · rename_i T T' x y hT
        unfold appendE
        simp only
        split at hq
        · rename_i hTT
          rw [if_pos hTT]
          split at hq
          · rename_i e z by_ d hk
            try simp only [hk]
            split at hq
            · rename_i xs hl
              try simp only [hl]
              refine ⟨hq.1, ?_⟩
              have hq := hq.2
              split at hq
              · exact ⟨hq.1, fun hx => pn _ (hq.2.1 hx), fun hx => post_some (hq.2.2 hx) rfl rfl⟩
              · exact hq.elim
            · exact hq.elim
          · exact hq.elim
        · exact hq.elim
      · exact hq.elim
    | value f =>
      simp only at h ⊢
      split at h
      · rename_i g caps hf
        try simp only [hf]
        refine getsE_imp (fun ds hq => ?_) h
        refine .inl ?_
        split at hq
        · rename_i ds' hr
          try simp only [hr]
          obtain ⟨d, ext, h1, h2, h3⟩ := hq
          refine ⟨d, ext, h1, h2, ?_⟩
          rw [hE.F] at h3
          simp only [fns] at h3
          split at h3
          · rw [lt_up h3.1]
            exact post_none h3.2
          · exact post_some h3.2 h3.1.1 h3.1.2
          · exact h3.elim
        · exact hq.elim
      · exact h.elim
  | _ => exact h.elim
end Go.Proofs.YtppmomobjjpljaaDoor.E
end

/- Part KD4. -/
section
/- A calculus for Go functions over an abstract memory (regions that draw their order, part 4): names turned; an outcome put under its own name. Conditions: those of each theorem. -/
namespace Go.Proofs.YtppmomobjjpljaaDoor.E
open Go Go.RowKit
set_option linter.unusedVariables false
set_option linter.unusedSimpArgs false
variable {P : Program} {E : Env} {φ : Nat → Nat} {w : World} {C : Ctx} {s : St} {a : Act} {o : Oper}

theorem wildB_ne {lo : Nat} {m : List Bool} {r b : Nat} (hlo : lo ≤ r) (hm : m[r - lo]? ≠ some true) (h : wildB lo m b = false) : b ≠ r := by
  rintro rfl
  unfold wildB at h
  rw [if_neg (by omega)] at h
  split at h
  · exact hm (by assumption)
  · cases h
mutual
theorem wild_kill {lo : Nat} {m : List Bool} {r : Nat} (hlo : lo ≤ r) (hm : m[r - lo]? ≠ some true) : ∀ {d : D}, d.wild lo m = false → d.kill r = d
  | .agg l, h => by simp only [D.wild] at h; simp only [D.kill, wildL_kill hlo hm h]
  | .tup l, h => by simp only [D.wild] at h; simp only [D.kill, wildL_kill hlo hm h]
  | .fn f l, h => by simp only [D.wild] at h; simp only [D.kill, wildL_kill hlo hm h]
  | .sl b z i n, h => by simp only [D.wild] at h; simp only [D.kill]; rw [if_neg (wildB_ne hlo hm h)]
  | .ptr b z i j, h => by simp only [D.wild] at h; simp only [D.kill]; rw [if_neg (wildB_ne hlo hm h)]
  | .nil, h => by simp only [D.kill]
  | .int k n, h => by simp only [D.kill]
  | .bool b, h => by simp only [D.kill]
  | .str t, h => by simp only [D.kill]
  | .sc v, h => by simp only [D.kill]
  | .ro l, h => by simp only [D.kill]
  | .rp e j, h => by simp only [D.kill]
  | .undef, h => by simp only [D.kill]
theorem wildL_kill {lo : Nat} {m : List Bool} {r : Nat} (hlo : lo ≤ r) (hm : m[r - lo]? ≠ some true) : ∀ {l : List D}, D.wildL lo m l = false → D.killL r l = l
  | [], h => by simp only [D.killL]
  | d :: l, h => by
    simp only [D.wildL] at h
    split at h
    · cases h
    · rename_i hd; simp only [D.killL, wild_kill hlo hm hd, wildL_kill hlo hm h]
end
/-- r becomes k. -/
def sw (r k : Nat) (b : Nat) : Nat := if b = r then k else b
mutual
theorem kill_ren {r k : Nat} : ∀ {d : D}, d.kill r = d → d.ren (sw r k) = d
  | .agg l, h => by simp only [D.kill, D.agg.injEq] at h; simp only [D.ren, killL_ren h]
  | .tup l, h => by simp only [D.kill, D.tup.injEq] at h; simp only [D.ren, killL_ren h]
  | .fn f l, h => by simp only [D.kill, D.fn.injEq, true_and] at h; simp only [D.ren, killL_ren h]
  | .sl b z i n, h => by
    simp only [D.kill] at h
    split at h
    · cases h
    · rename_i hb; simp only [D.ren, sw, if_neg hb]
  | .ptr b z i j, h => by
    simp only [D.kill] at h
    split at h
    · cases h
    · rename_i hb; simp only [D.ren, sw, if_neg hb]
  | .nil, h => by simp only [D.ren]
  | .int k n, h => by simp only [D.ren]
  | .bool b, h => by simp only [D.ren]
  | .str t, h => by simp only [D.ren]
  | .sc v, h => by simp only [D.ren]
  | .ro l, h => by simp only [D.ren]
  | .rp e j, h => by simp only [D.ren]
  | .undef, h => by simp only [D.ren]
theorem killL_ren {r k : Nat} : ∀ {l : List D}, D.killL r l = l → D.renL (sw r k) l = l
  | [], h => by simp only [D.renL]
  | d :: l, h => by simp only [D.killL, List.cons.injEq] at h; simp only [D.renL, kill_ren h.1, killL_ren h.2]
end
mutual
theorem up_facts {r k n q : Nat} (hrn : r < n) (hq : q ≠ r) : ∀ {d : D}, d.lt 1 = true → (d.up r).ren (sw r k) = d.up k ∧ (d.up r).lt n = true ∧ (d.up r).kill q = d.up r
  | .agg l, h => by simp only [D.lt] at h; obtain ⟨h1, h2, h3⟩ := upL_facts (k := k) hrn hq h; simp only [D.up, D.ren, D.lt, D.kill, h1, h2, h3, and_self]
  | .tup l, h => by simp only [D.lt] at h; obtain ⟨h1, h2, h3⟩ := upL_facts (k := k) hrn hq h; simp only [D.up, D.ren, D.lt, D.kill, h1, h2, h3, and_self]
  | .fn f l, h => by simp only [D.lt] at h; obtain ⟨h1, h2, h3⟩ := upL_facts (k := k) hrn hq h; simp only [D.up, D.ren, D.lt, D.kill, h1, h2, h3, and_self]
  | .sl b z i m, h => by
    simp only [D.lt, decide_eq_true_eq] at h
    have : b = 0 := by omega
    subst this
    simp only [D.up, D.ren, D.lt, D.kill, sw, Nat.add_zero, if_true, decide_eq_true_eq, hrn, if_neg (Ne.symm hq), and_self]
  | .ptr b z i j, h => by
    simp only [D.lt, decide_eq_true_eq] at h
    have : b = 0 := by omega
    subst this
    simp only [D.up, D.ren, D.lt, D.kill, sw, Nat.add_zero, if_true, decide_eq_true_eq, hrn, if_neg (Ne.symm hq), and_self]
  | .nil, h => by simp only [D.up, D.ren, D.lt, D.kill, and_self]
  | .int k n, h => by simp only [D.up, D.ren, D.lt, D.kill, and_self]
  | .bool b, h => by simp only [D.up, D.ren, D.lt, D.kill, and_self]
  | .str t, h => by simp only [D.up, D.ren, D.lt, D.kill, and_self]
  | .sc v, h => by simp only [D.up, D.ren, D.lt, D.kill, and_self]
  | .ro l, h => by simp only [D.up, D.ren, D.lt, D.kill, and_self]
  | .rp e j, h => by simp only [D.up, D.ren, D.lt, D.kill, and_self]
  | .undef, h => by simp only [D.up, D.ren, D.lt, D.kill, and_self]
theorem upL_facts {r k n q : Nat} (hrn : r < n) (hq : q ≠ r) : ∀ {l : List D}, D.ltL 1 l = true → D.renL (sw r k) (D.upL r l) = D.upL k l ∧ D.ltL n (D.upL r l) = true ∧ D.killL q (D.upL r l) = D.upL r l
  | [], h => by simp only [D.upL, D.renL, D.ltL, D.killL, and_self]
  | d :: l, h => by
    simp only [D.ltL, Bool.and_eq_true] at h
    obtain ⟨h1, h2, h3⟩ := up_facts (k := k) hrn hq h.1
    obtain ⟨h4, h5, h6⟩ := upL_facts (k := k) hrn hq h.2
    simp only [D.upL, D.renL, D.ltL, D.killL, h1, h2, h3, h4, h5, h6, Bool.and_self, and_self]
end
theorem ltL_of {n : Nat} : ∀ {l : List D}, (∀ (i : Nat) (d : D), l[i]? = some d → d.lt n = true) → D.ltL n l = true
  | [], _ => rfl
  | d :: l, h => by simp only [D.ltL, Bool.and_eq_true]; exact ⟨h 0 d rfl, ltL_of fun i e he => h (i + 1) e (by simpa using he)⟩
theorem Rd.lt {φ : Nat → Nat} {M : Nat → Prop} {w : World} {n : Nat} {d : D} {v : Value} (h : Rd φ M w n d v) : d.lt n = true := by
  induction h with
  | agg hn h ih => simp only [D.lt]; exact ltL_of ih
  | tup hn h ih => simp only [D.lt]; exact ltL_of ih
  | fn hn h ih => simp only [D.lt]; exact ltL_of ih
  | sl k1 => simp only [D.lt, decide_eq_true_eq]; exact k1
  | ptr k1 => simp only [D.lt, decide_eq_true_eq]; exact k1
  | _ => simp only [D.lt]

/-- A state told under other names. -/
theorem Rel.rename {s' : St} (h : Rel C φ s' a w) (π : Nat → Nat) (hnt : s.nt = s'.nt) (hfr : s'.fr = s.fr) (hdf : s'.df = s.df)
    (htm : ∀ i d, lk s.tm i = some d → lk s'.tm i = some (d.ren π) ∧ d.lt s.nx = true)
    (hhp : ∀ b B, lk s.hp b = some B → b < s.nx ∧ lk s'.hp (π b) = some B ∧ (B.flat = true ∨ ∀ e, e ∈ B.els → ∀ d, d ∈ e.cells → d.ren π = d ∧ d.lt s.nx = true))
    (hinj : ∀ b b' B B', lk s.hp b = some B → lk s.hp b' = some B' → π b = π b' → b = b')
    (hf : ∀ (i : Nat) (t : List (Nat × D)), s.fr[i]? = some t → ∀ j d, lk t j = some d → d.ren π = d ∧ d.lt s.nx = true)
    (hd : ∀ (i : Nat) (f : FuncId) (l : List D), s.df[i]? = some (f, l) → ∀ (j : Nat) (d : D), l[j]? = some d → d.ren π = d ∧ d.lt s.nx = true) : Rel C (fun b => φ (π b)) s a w := by
  have hM : ∀ k, Mut C.M (fun b => φ (π b)) s.hp k → Mut C.M φ s'.hp k := fun k hk => by
    rcases hk with hk | ⟨b, B, hb, rfl⟩
    · exact .inl hk
    · exact .inr ⟨π b, B, (hhp b B hb).2.1, rfl⟩
  have hun : ∀ {n : Nat} {d : D} {v : Value}, Rd φ (Mut C.M φ s'.hp) w n (d.ren π) v → d.lt s.nx = true → Rd (fun b => φ (π b)) (Mut C.M (fun b => φ (π b)) s.hp) w s.nx d v := fun h1 h2 => h1.unren (fun _ _ => rfl) (fun k _ hk => hM k hk) _ rfl h2
  refine ⟨h.nt.trans hnt.symm, fun i d hi => ?_, by rw [← hfr]; exact h.frn, fun i t vs h1 h2 j d hj => ?_, fun b B hb => ?_, fun b b' B B' hb hb' he => ?_, by rw [← hdf]; exact h.dfn, fun i f l hi => ?_, h.below, h.fl, h.M, h.G⟩
  · obtain ⟨h1, h2⟩ := htm i d hi
    exact hun (h.tm i _ h1) h2
  · obtain ⟨h3, h4⟩ := hf i t h1 j d hj
    refine hun (n := s'.nx) ?_ h4
    rw [h3]
    exact h.fr i t vs (by rw [hfr]; exact h1) h2 j d hj
  · obtain ⟨h1, h2, h3⟩ := hhp b B hb
    obtain ⟨h4, h5, cs, h6⟩ := h.hp _ B h2
    refine ⟨h1, h5, cs, h6.heap, h6.size, h6.zs, h6.one, fun i e j d he hd => ?_⟩
    have h7 := h6.rd i e j d he hd
    cases hfl : B.flat with
    | true =>
      rw [hfl] at h7
      exact h7.move (r := 0) ⟨Nat.le_refl _, fun b hb => absurd hb (Nat.not_lt_zero b), fun _ _ _ => rfl, fun k _ hk => hM k hk, fun b hb => absurd hb (Nat.not_lt_zero b)⟩ (Nat.le_refl _) (Nat.le_refl _)
    | false =>
      rw [hfl] at h7
      obtain ⟨h8, h9⟩ := (h3.resolve_left (by simp [hfl])) e (List.mem_of_getElem? he) d (List.mem_of_getElem? hd)
      exact hun (n := s'.nx) (by rw [h8]; exact h7) h9
  · exact hinj b b' B B' hb hb' (h.inj _ _ B B' (hhp b B hb).2.1 (hhp b' B' hb').2.1 he)
  · obtain ⟨cs, h1, h2, h3⟩ := h.df i f l (by rw [hdf]; exact hi)
    refine ⟨cs, h1, h2, fun j d hj => ?_⟩
    obtain ⟨h4, h5⟩ := hd i f l hi j d hj
    exact hun (n := s'.nx) (by rw [h4]; exact h3 j d hj) h5
/-- Nothing leads to block r. -/
structure Clean (r : Nat) (s : St) : Prop where
  tm : ∀ i d, lk s.tm i = some d → d.kill r = d
  hp : ∀ b B, lk s.hp b = some B → b ≠ r ∧ (B.flat = true ∨ ∀ e, e ∈ B.els → ∀ d, d ∈ e.cells → d.kill r = d)
  fr : ∀ (i : Nat) (t : List (Nat × D)), s.fr[i]? = some t → ∀ j d, lk t j = some d → d.kill r = d
  df : ∀ (i : Nat) (f : FuncId) (l : List D), s.df[i]? = some (f, l) → ∀ (j : Nat) (d : D), l[j]? = some d → d.kill r = d
theorem lk_set {dst : Option Tmp} {d e : D} {i : Nat} : lk (s.set dst d).tm i = some e ↔ (dst = some i ∧ i < s.nt ∧ e = d) ∨ (¬ (dst = some i ∧ i < s.nt) ∧ lk s.tm i = some e) := by
  cases dst with
  | none => simp [St.set]
  | some t =>
    simp only [St.set]
    by_cases ht : t < s.nt
    · rw [if_pos ht]
      simp only [lk]
      by_cases hti : t = i
      · subst hti; simp [ht, eq_comm]
      · simp [hti]
    · rw [if_neg ht]
      by_cases hti : t = i
      · subst hti; simp [ht]
      · simp [hti]
theorem set_same {dst : Option Tmp} {d : D} : (s.set dst d).hp = s.hp ∧ (s.set dst d).nx = s.nx ∧ (s.set dst d).nt = s.nt ∧ (s.set dst d).fr = s.fr ∧ (s.set dst d).df = s.df := by
  cases dst with
  | none => exact ⟨rfl, rfl, rfl, rfl, rfl⟩
  | some t => simp only [St.set]; split <;> exact ⟨rfl, rfl, rfl, rfl, rfl⟩
theorem step_put {φ' : Nat → Nat} {a' : Act} {w' : World} {r : Nat} (hR : Rel C φ s a w) (hc : Clean r s) (hr : r < s.nx) {x : Out} (h : Rel C φ' (postE s x.dst x.d x.B) a' w') (hok : okOut x.d x.B) : ∃ φ'', Rel C φ'' (x.put r s) a' w' := by
  obtain ⟨dst, d, B⟩ := x
  cases B with
  | none => exact ⟨φ', h⟩
  | some B =>
    simp only [postE] at h
    obtain ⟨h1, h2⟩ := hok
    obtain ⟨k1, k2, k3, k4, k5⟩ := set_same (s := s.new B) (dst := dst) (d := d.up s.nx)
    obtain ⟨j1, j2, j3, j4, j5⟩ := set_same (s := ({ s with hp := (r, B) :: s.hp } : St)) (dst := dst) (d := d.up r)
    have hfree : ∀ (d : D), d.kill r = d → d.lt s.nx = true → d.ren (sw r s.nx) = d ∧ d.lt s.nx = true := fun d h1 h2 => ⟨kill_ren h1, h2⟩
    refine ⟨_, h.rename (s := ({ s with hp := (r, B) :: s.hp } : St).set dst (d.up r)) (sw r s.nx) ?_ ?_ ?_ ?_ ?_ ?_ ?_ ?_⟩
    · rw [j3, k3]; rfl
    · rw [j4, k4]; rfl
    · rw [j5, k5]; rfl
    · intro i e he
      rw [lk_set] at he
      rw [j2]
      rcases he with ⟨h3, h4, rfl⟩ | ⟨h3, h4⟩
      · obtain ⟨h5, h6, _⟩ := up_facts (k := s.nx) hr (Nat.ne_of_gt (Nat.lt_succ_self r)) h1
        refine ⟨?_, h6⟩
        rw [lk_set, h5]
        exact .inl ⟨h3, h4, rfl⟩
      · obtain ⟨h5, h6⟩ := hfree e (hc.tm i e h4) (hR.tm i e h4).lt
        refine ⟨?_, h6⟩
        rw [lk_set, h5]
        exact .inr ⟨h3, h4⟩
    · intro b B' hb
      rw [j1] at hb
      rw [j2, k1]
      simp only [lk] at hb
      simp only [St.new, lk]
      split at hb
      · rename_i hrb
        cases hb
        subst hrb
        exact ⟨hr, by simp [sw], .inl h2⟩
      · rename_i hrb
        obtain ⟨h3, h4, cs, h5⟩ := hR.hp b B' hb
        refine ⟨h3, ?_, ?_⟩
        · have : sw r s.nx b = b := by rw [sw, if_neg (Ne.symm hrb)]
          rw [this, if_neg (by omega)]
          exact hb
        · rcases (hc.hp b B' hb).2 with h6 | h6
          · exact .inl h6
          · cases hfl : B'.flat with
            | true => exact .inl rfl
            | false =>
              refine .inr fun e he x hx => hfree x (h6 e he x hx) ?_
              obtain ⟨i, hi⟩ := List.mem_iff_getElem?.1 he
              obtain ⟨j, hj⟩ := List.mem_iff_getElem?.1 hx
              have := (h5.rd i e j x hi hj).lt
              rw [hfl] at this
              exact this
    · intro b b' B1 B2 hb hb' he
      rw [j1] at hb hb'
      simp only [lk] at hb hb'
      simp only [sw] at he
      by_cases e1 : b = r
      · by_cases e2 : b' = r
        · rw [e1, e2]
        · rw [if_pos e1, if_neg e2] at he
          rw [if_neg (Ne.symm e2)] at hb'
          have := (hR.hp b' B2 hb').1
          omega
      · by_cases e2 : b' = r
        · rw [if_neg e1, if_pos e2] at he
          rw [if_neg (Ne.symm e1)] at hb
          have := (hR.hp b B1 hb).1
          omega
        · rw [if_neg e1, if_neg e2] at he
          exact he
    · intro i t ht j e he
      rw [j4] at ht
      rw [j2]
      have hlt : i < C.frv.length := by rw [hR.frn]; exact (List.getElem?_eq_some_iff.1 ht).1
      exact hfree e (hc.fr i t ht j e he) (hR.fr i t _ ht (List.getElem?_eq_getElem hlt) j e he).lt
    · intro i f l hl j e he
      rw [j5] at hl
      rw [j2]
      obtain ⟨cs, h3, h4, h5⟩ := hR.df i f l hl
      exact hfree e (hc.df i f l hl j e he) (h5 j e he).lt
end Go.Proofs.YtppmomobjjpljaaDoor.E
end

/- Part KD5. -/
section
/- A calculus for Go functions over an abstract memory (regions that draw their order, part 5): what is told when some of the operations have run. Conditions: those of each theorem. -/
namespace Go.Proofs.YtppmomobjjpljaaDoor.E
open Go Go.RowKit
set_option linter.unusedVariables false
set_option linter.unusedSimpArgs false
variable {P : Program} {E : Env} {φ : Nat → Nat} {w : World} {C : Ctx} {s : St} {a : Act} {o : Oper}

def Out.val (x : Out) (r : Nat) : D := match x.B with
  | some _ => x.d.up r
  | none => x.d
theorem put_same {r : Nat} {x : Out} : (x.put r s).nx = s.nx ∧ (x.put r s).nt = s.nt ∧ (x.put r s).fr = s.fr ∧ (x.put r s).df = s.df := by
  obtain ⟨dst, d, B⟩ := x
  cases B with
  | none => obtain ⟨h1, h2, h3, h4, h5⟩ := set_same (s := s) (dst := dst) (d := d); exact ⟨h2, h3, h4, h5⟩
  | some B => obtain ⟨h1, h2, h3, h4, h5⟩ := set_same (s := ({ s with hp := (r, B) :: s.hp } : St)) (dst := dst) (d := d.up r); exact ⟨h2, h3, h4, h5⟩
theorem put_tm {r : Nat} {x : Out} {t : Nat} {e : D} : lk (x.put r s).tm t = some e ↔ (x.dst = some t ∧ t < s.nt ∧ e = x.val r) ∨ (¬ (x.dst = some t ∧ t < s.nt) ∧ lk s.tm t = some e) := by
  obtain ⟨dst, d, B⟩ := x
  cases B with
  | none => exact lk_set
  | some B => exact lk_set
theorem put_hp {r : Nat} {x : Out} {b : Nat} {B : Blk} : lk (x.put r s).hp b = some B ↔ (x.B = some B ∧ b = r) ∨ (¬ (x.B ≠ none ∧ b = r) ∧ lk s.hp b = some B) := by
  obtain ⟨dst, d, B'⟩ := x
  cases B' with
  | none => simp only [Out.put, (set_same (s := s) (dst := dst) (d := d)).1]; simp
  | some B' =>
    simp only [Out.put, (set_same (s := ({ s with hp := (r, B') :: s.hp } : St)) (dst := dst) (d := d.up r)).1, lk]
    by_cases h : r = b
    · rw [if_pos h]; simp [h]
    · rw [if_neg h]; simp [Ne.symm h]

def applyF (S : Nat → Bool) (r0 : Nat) : Nat → List Out → St → St
  | _, [], s => s
  | i, x :: l, s => applyF S r0 (i + 1) l (if S i = true then x.put (r0 + i) s else s)
theorem applyF_none {S : Nat → Bool} {r0 : Nat} : ∀ (l : List Out) (i : Nat) (s : St), (∀ j, i ≤ j → S j = false) → applyF S r0 i l s = s
  | [], i, s, h => rfl
  | x :: l, i, s, h => by
    simp only [applyF, h i (Nat.le_refl _)]
    exact applyF_none l (i + 1) _ fun j hj => h j (by omega)
theorem applyM_F {r0 : Nat} {m : List Bool} : ∀ (l : List Out) (i : Nat) (s : St), applyM (r0 + i) (m.drop i) l s = applyF (fun j => m.getD j false) r0 i l s
  | [], i, s => by unfold applyM; rfl
  | x :: l, i, s => by
    cases hm : m.drop i with
    | nil =>
      have : ∀ j, i ≤ j → m.getD j false = false := fun j hj => by
        have hle : m.length ≤ i := by simpa using hm
        rw [List.getD_eq_getElem?_getD, List.getElem?_eq_none (by omega)]; rfl
      rw [applyF_none _ _ _ this]
      unfold applyM
      rfl
    | cons b m' =>
      have hb : m.getD i false = b := by
        have : (m.drop i)[0]? = some b := by rw [hm]; rfl
        rw [List.getElem?_drop, Nat.add_zero] at this
        rw [List.getD_eq_getElem?_getD, this]; rfl
      have hm' : m' = m.drop (i + 1) := by
        have : (m.drop i).drop 1 = m' := by rw [hm]; rfl
        rw [List.drop_drop] at this; exact this.symm
      simp only [applyM, applyF, hb]
      rw [hm', show r0 + i + 1 = r0 + (i + 1) by omega]
      cases b with
      | true => simp only [if_true]; exact applyM_F l (i + 1) _
      | false => simp only [if_false, Bool.false_eq_true]; exact applyM_F l (i + 1) _
theorem applyM_F0 {r0 : Nat} {m : List Bool} (l : List Out) (s : St) : applyM r0 m l s = applyF (fun j => m.getD j false) r0 0 l s := by
  have := applyM_F (r0 := r0) (m := m) l 0 s
  simpa using this
theorem applyA_F {r0 : Nat} : ∀ (l : List Out) (i : Nat) (s : St), applyA (r0 + i) l s = applyF (fun _ => true) r0 i l s
  | [], i, s => rfl
  | x :: l, i, s => by
    simp only [applyA, applyF, if_true]
    rw [show r0 + i + 1 = r0 + (i + 1) by omega]
    exact applyA_F l (i + 1) _
theorem applyF_same {S : Nat → Bool} {r0 : Nat} : ∀ (l : List Out) (i : Nat) (s : St), (applyF S r0 i l s).nx = s.nx ∧ (applyF S r0 i l s).nt = s.nt ∧ (applyF S r0 i l s).fr = s.fr ∧ (applyF S r0 i l s).df = s.df
  | [], i, s => ⟨rfl, rfl, rfl, rfl⟩
  | x :: l, i, s => by
    simp only [applyF]
    obtain ⟨h1, h2, h3, h4⟩ := applyF_same (S := S) (r0 := r0) l (i + 1) (if S i = true then x.put (r0 + i) s else s)
    obtain ⟨k1, k2, k3, k4⟩ := put_same (s := s) (r := r0 + i) (x := x)
    rw [h1, h2, h3, h4]
    split
    · exact ⟨k1, k2, k3, k4⟩
    · exact ⟨rfl, rfl, rfl, rfl⟩
/-- No two have one slot. -/
def ND (l : List Out) : Prop := ∀ (j k : Nat) (x y : Out) (t : Nat), l[j]? = some x → l[k]? = some y → x.dst = some t → y.dst = some t → j = k
theorem applyF_tm {S : Nat → Bool} {r0 : Nat} : ∀ (l : List Out) (i : Nat) (s : St), ND l → (∀ (j : Nat) (x : Out) (t : Nat), l[j]? = some x → x.dst = some t → lk s.tm t = none) → ∀ t d,
    (lk (applyF S r0 i l s).tm t = some d ↔ (∃ (j : Nat) (x : Out), l[j]? = some x ∧ S (i + j) = true ∧ x.dst = some t ∧ t < s.nt ∧ d = x.val (r0 + (i + j))) ∨ lk s.tm t = some d)
  | [], i, s, hnd, hs, t, d => by simp [applyF]
  | x :: l, i, s, hnd, hs, t, d => by
    have hnd' : ND l := fun j k y z u hj hk h1 h2 => Nat.succ.inj (hnd (j + 1) (k + 1) y z u (by simpa using hj) (by simpa using hk) h1 h2)
    have ht : ∀ (j : Nat) (y : Out) (u : Nat), l[j]? = some y → y.dst = some u → x.dst ≠ some u := fun j y u hj h1 h2 => by
      have := hnd (j + 1) 0 y x u (by simpa using hj) rfl h1 h2
      omega
    have hs1 : ∀ (j : Nat) (y : Out) (u : Nat), l[j]? = some y → y.dst = some u → lk (if S i = true then x.put (r0 + i) s else s).tm u = none := fun j y u hj h1 => by
      have h2 := hs (j + 1) y u (by simpa using hj) h1
      split
      · cases hq : lk (x.put (r0 + i) s).tm u with
        | none => rfl
        | some e =>
          rw [put_tm] at hq
          rcases hq with ⟨h3, _⟩ | ⟨_, h3⟩
          · exact absurd h3 (ht j y u hj h1)
          · rw [h2] at h3; cases h3
      · exact h2
    have h0 : ∀ {u : Nat}, x.dst = some u → lk s.tm u = none := fun h => hs 0 x _ rfl h
    have hx : lk (if S i = true then x.put (r0 + i) s else s).tm t = some d ↔ (S i = true ∧ x.dst = some t ∧ t < s.nt ∧ d = x.val (r0 + i)) ∨ lk s.tm t = some d := by
      by_cases hS : S i = true
      · rw [if_pos hS, put_tm]
        constructor
        · rintro (⟨h1, h2, h3⟩ | ⟨_, h1⟩)
          · exact .inl ⟨hS, h1, h2, h3⟩
          · exact .inr h1
        · rintro (⟨_, h1, h2, h3⟩ | h1)
          · exact .inl ⟨h1, h2, h3⟩
          · refine .inr ⟨fun h2 => ?_, h1⟩
            rw [h0 h2.1] at h1; cases h1
      · rw [if_neg hS]
        exact ⟨.inr, fun h => h.resolve_left fun h => hS h.1⟩
    have hnt : (if S i = true then x.put (r0 + i) s else s).nt = s.nt := by split; exact put_same.2.1; rfl
    simp only [applyF]
    rw [applyF_tm l (i + 1) _ hnd' hs1 t d, hx, hnt]
    constructor
    · rintro (⟨j, y, h1, h2, h3⟩ | ⟨h1, h2⟩ | h1)
      · exact .inl ⟨j + 1, y, by simpa using h1, by rw [show i + (j + 1) = i + 1 + j by omega]; exact h2, by rw [show i + (j + 1) = i + 1 + j by omega]; exact h3⟩
      · exact .inl ⟨0, x, rfl, h1, h2⟩
      · exact .inr h1
    · rintro (⟨j, y, h1, h2, h3⟩ | h1)
      · cases j with
        | zero => simp at h1; subst h1; exact .inr (.inl ⟨h2, h3⟩)
        | succ j =>
          rw [show i + (j + 1) = i + 1 + j by omega] at h2 h3
          exact .inl ⟨j, y, by simpa using h1, h2, h3⟩
      · exact .inr (.inr h1)
theorem applyF_hp {S : Nat → Bool} {r0 : Nat} : ∀ (l : List Out) (i : Nat) (s : St), (∀ b, r0 + i ≤ b → lk s.hp b = none) → ∀ b B,
    (lk (applyF S r0 i l s).hp b = some B ↔ (∃ (j : Nat) (x : Out), l[j]? = some x ∧ S (i + j) = true ∧ x.B = some B ∧ b = r0 + (i + j)) ∨ lk s.hp b = some B)
  | [], i, s, hs, b, B => by simp [applyF]
  | x :: l, i, s, hs, b, B => by
    have hs1 : ∀ b, r0 + (i + 1) ≤ b → lk (if S i = true then x.put (r0 + i) s else s).hp b = none := fun b hb => by
      have h2 := hs b (by omega)
      split
      · cases hq : lk (x.put (r0 + i) s).hp b with
        | none => rfl
        | some e =>
          rw [put_hp] at hq
          rcases hq with ⟨_, h3⟩ | ⟨_, h3⟩
          · omega
          · rw [h2] at h3; cases h3
      · exact h2
    have h0 : lk s.hp (r0 + i) = none := hs _ (Nat.le_refl _)
    have hx : lk (if S i = true then x.put (r0 + i) s else s).hp b = some B ↔ (S i = true ∧ x.B = some B ∧ b = r0 + i) ∨ lk s.hp b = some B := by
      by_cases hS : S i = true
      · rw [if_pos hS, put_hp]
        constructor
        · rintro (⟨h1, h2⟩ | ⟨_, h1⟩)
          · exact .inl ⟨hS, h1, h2⟩
          · exact .inr h1
        · rintro (⟨_, h1, h2⟩ | h1)
          · exact .inl ⟨h1, h2⟩
          · refine .inr ⟨fun h2 => ?_, h1⟩
            rw [h2.2, h0] at h1; cases h1
      · rw [if_neg hS]
        exact ⟨.inr, fun h => h.resolve_left fun h => hS h.1⟩
    simp only [applyF]
    rw [applyF_hp l (i + 1) _ hs1 b B, hx]
    constructor
    · rintro (⟨j, y, h1, h2, h3⟩ | ⟨h1, h2⟩ | h1)
      · exact .inl ⟨j + 1, y, by simpa using h1, by rw [show i + (j + 1) = i + 1 + j by omega]; exact h2, by rw [show i + (j + 1) = i + 1 + j by omega]; exact h3⟩
      · exact .inl ⟨0, x, rfl, h1, h2⟩
      · exact .inr h1
    · rintro (⟨j, y, h1, h2, h3⟩ | h1)
      · cases j with
        | zero => simp at h1; subst h1; exact .inr (.inl ⟨h2, h3⟩)
        | succ j =>
          rw [show i + (j + 1) = i + 1 + j by omega] at h2 h3
          exact .inl ⟨j, y, by simpa using h1, h2, h3⟩
      · exact .inr (.inr h1)

theorem Rel.sub {s' : St} (h : Rel C φ s a w) (hnx : s'.nx = s.nx) (hnt : s'.nt = s.nt) (hfr : s'.fr = s.fr) (hdf : s'.df = s.df) (htm : ∀ i d, lk s'.tm i = some d → lk s.tm i = some d) (hhp : ∀ b B, lk s'.hp b = some B ↔ lk s.hp b = some B) : Rel C φ s' a w := by
  have hM : Mut C.M φ s'.hp = Mut C.M φ s.hp := by
    funext k
    simp only [Mut, hhp]
  refine ⟨h.nt.trans hnt.symm, fun i d hi => ?_, by rw [hfr]; exact h.frn, fun i t vs h1 h2 j d hj => ?_, fun b B hb => ?_, fun b b' B B' hb hb' he => ?_, by rw [hdf]; exact h.dfn, fun i f l hi => ?_, h.below, h.fl, h.M, h.G⟩
  · rw [hM, hnx]; exact h.tm i d (htm i d hi)
  · rw [hM, hnx]; exact h.fr i t vs (by rw [← hfr]; exact h1) h2 j d hj
  · rw [hM, hnx]; exact h.hp b B ((hhp b B).1 hb)
  · exact h.inj b b' B B' ((hhp _ _).1 hb) ((hhp _ _).1 hb') he
  · rw [hM, hnx]; exact h.df i f l (by rw [← hdf]; exact hi)
theorem Rel.raise {n : Nat} (h : Rel C φ s a w) (hn : s.nx ≤ n) : Rel C φ { s with nx := n } a w :=
  h.move (φ' := φ) (hp' := s.hp) (nx' := n) ⟨Nat.le_refl _, fun _ _ _ => rfl, fun _ _ _ => rfl, fun _ _ h => h, fun _ _ _ cs e fz h => ⟨cs, e, fz, h, rfl⟩⟩ hn (Below.refl _ _)
    (fun b B hb => by
      obtain ⟨h1, h2, cs, h3⟩ := h.hp b B hb
      exact ⟨Nat.lt_of_lt_of_le h1 hn, h2, cs, h3.move ⟨Nat.le_refl _, fun _ _ _ => rfl, fun _ _ _ => rfl, fun _ _ h => h, fun _ _ _ cs e fz h => ⟨cs, e, fz, h, rfl⟩⟩ (Nat.le_refl s.nx) hn rfl⟩) h.inj
theorem Rel.clean (h : Rel C φ s a w) {r : Nat} (hr : s.nx ≤ r) : Clean r s where
  tm i d hd := (h.tm i d hd).kill_fresh hr
  hp b B hb := by
    obtain ⟨h1, h2, cs, h3⟩ := h.hp b B hb
    refine ⟨by omega, ?_⟩
    cases hf : B.flat with
    | true => exact .inl rfl
    | false =>
      refine .inr fun e he d hd => ?_
      obtain ⟨i, hi⟩ := List.mem_iff_getElem?.1 he
      obtain ⟨j, hj⟩ := List.mem_iff_getElem?.1 hd
      have := h3.rd i e j d hi hj
      rw [hf] at this
      exact this.kill_fresh hr
  fr i t ht j d hd := by
    have hlt : i < C.frv.length := by rw [h.frn]; exact (List.getElem?_eq_some_iff.1 ht).1
    exact (h.fr i t _ ht (List.getElem?_eq_getElem hlt) j d hd).kill_fresh hr
  df i f l hl j d hd := by
    obtain ⟨cs, h1, h2, h3⟩ := h.df i f l hl
    exact (h3 j d hd).kill_fresh hr
end Go.Proofs.YtppmomobjjpljaaDoor.E
end

/- Part KD6. -/
section
/- A calculus for Go functions over an abstract memory (regions that draw their order, part 6): any order of the ready operations comes to what the text's order tells. Conditions: those of each theorem. -/
namespace Go.Proofs.YtppmomobjjpljaaDoor.E
open Go Go.RowKit
set_option linter.unusedVariables false
set_option linter.unusedSimpArgs false
variable {P : Program} {E : Env} {φ : Nat → Nat} {w : World} {C : Ctx} {s : St} {a : Act} {o : Oper} {ops : Array Oper}

def OutIs (E : Env) (s : St) (o : Oper) (x : Out) : Prop := outE E o.op s fun d B => (d, B) = (x.d, x.B)
def OutOk (E : Env) (ts : List (Option Tmp)) (s : St) (o : Oper) (x : Out) : Prop :=
  match o.guard with
  | none => OutIs E s o x
  | some (j, want) => (∃ t b, ts[j]? = some (some t) ∧ lk s.tm t = some (.bool b) ∧ ((b = want ∧ OutIs E s o x) ∨ (b ≠ want ∧ x.d = .tup [] ∧ x.B = none))) ∨ ∃ t l, ts[j]? = some (some t) ∧ lk s.tm t = some (.tup l) ∧ x.d = .tup [] ∧ x.B = none
structure Plan (E : Env) (ops : Array Oper) (s0 : St) (r0 : Nat) (ms : List (List Bool)) (acc : List Out) : Prop where
  nd : ND acc
  base : ∀ (j : Nat) (x : Out) (t : Nat), acc[j]? = some x → x.dst = some t → lk s0.tm t = none
  hp : ∀ b, r0 ≤ b → lk s0.hp b = none
  nx : r0 + acc.length ≤ s0.nx
  clean : ∀ r, r0 ≤ r → Clean r s0
  out : ∀ (j : Nat) (x : Out), acc[j]? = some x → ∃ o m, ops[j]? = some o ∧ ms[j]? = some m ∧ x.dst = o.dst ∧ OutOk E (dsts ops.toList) (applyM r0 m (acc.take j) s0) o x ∧ okOut x.d x.B ∧ (x.B = none → D.wild r0 m x.d = false)

theorem applyF_congr {S S' : Nat → Bool} {r0 : Nat} : ∀ (l : List Out) (i : Nat) (s : St), (∀ j, i ≤ j → j < i + l.length → S j = S' j) → applyF S r0 i l s = applyF S' r0 i l s
  | [], i, s, h => rfl
  | x :: l, i, s, h => by
    simp only [applyF]
    rw [h i (Nat.le_refl _) (by simp), applyF_congr l (i + 1) _ fun j h1 h2 => h j (by omega) (by simp at h2 ⊢; omega)]
theorem wants (hR : Rel C φ s a w) {j t : Nat} {b want : Bool} (hg : o.guard = some (j, want)) (ht : (dsts ops.toList)[j]? = some (some t)) (hb : lk s.tm t = some (.bool b)) : Region.wanted o (yielded ops a.tmps) = (b == want) := by
  have hbv := bool_at (hR.tm t _ hb)
  have hy : yielded ops a.tmps j = some b := by
    rw [dsts_get, Option.map_eq_some_iff] at ht
    obtain ⟨oj, h1, h2⟩ := ht
    have h1' : ops[j]? = some oj := by simpa using h1
    simp [yielded, h1', h2, hbv]
  cases b <;> cases want <;> simp [Region.wanted, hg, hy]
theorem op_step (hE : EnvOk P E) (hG : C.G = E.G) (hR : Rel C φ s a w) {i : Nat} (ho : ops[i]? = some o) {os : List Oper} {K : St → Prop} (h : opsE E (dsts ops.toList) (o :: os) s K) {next : Act → World → Prop} {Q : Exit → Act → World → Prop}
    (hn : ∀ φ' s' a' w', Rel C φ' s' a' w' → opsE E (dsts ops.toList) os s' K → next a' w') : wpOp P ops Q i next a w := by
  have act : ∀ {K' : St → Prop}, opE E o.op o.dst s (fun s' => opsE E (dsts ops.toList) os s' K) → o.wp P a w next Q := fun h => opE_good hE hR hG h _ _ fun φ' s' a' w' h1 h2 => hn _ _ _ _ h1 h2
  have skip : opsE E (dsts ops.toList) os (s.set o.dst (.tup [])) K → next (a.put o.dst undef) w := fun h => hn _ _ _ _ (hR.put o.dst rd_skip) h
  simp only [wpOp, ho]
  simp only [opsE] at h
  split at h
  · rename_i hg
    have hw : Region.wanted o (yielded ops a.tmps) = true := by simp [Region.wanted, hg]
    rw [if_pos hw]
    exact .inl (act (K' := K) h)
  · rename_i j want hg
    split at h
    · rename_i t ht
      split at h
      · rename_i b hb
        have hwant := wants hR hg ht hb
        cases want <;> cases b <;> simp only [hwant] at h ⊢
        · rw [if_pos (by decide)]; exact .inl (act (K' := K) h)
        · rw [if_neg (by decide)]; exact skip h
        · rw [if_neg (by decide)]; exact skip h
        · rw [if_pos (by decide)]; exact .inl (act (K' := K) h)
      · rename_i l hl
        rw [wants_not hR hg ht hl]
        exact skip h
      · exact h.elim
    · exact h.elim

theorem plan_step (hE : EnvOk P E) (hG : C.G = E.G) {s0 : St} {r0 : Nat} {ms : List (List Bool)} {acc : List Out} (pl : Plan E ops s0 r0 ms acc) {S : Nat → Bool}
    (hS : ∀ k, S k = true → ∀ m, ms[k]? = some m → ∀ j, m[j]? = some true → S j = true) {i : Nat} {x : Out} (hx : acc[i]? = some x) (hmS : ∀ m, ms[i]? = some m → ∀ j, m[j]? = some true → S j = true) (hi : S i = false)
    (hR : Rel C φ (applyF S r0 0 acc s0) a w) {next : Act → World → Prop} {Q : Exit → Act → World → Prop}
    (hn : ∀ φ' a' w', Rel C φ' (applyF (fun j => S j || decide (j = i)) r0 0 acc s0) a' w' → next a' w') : wpOp P ops Q i next a w := by
  obtain ⟨o, m, ho, hm, hdst, hout, hok, hwild⟩ := pl.out i x hx
  have hil : i < acc.length := (List.getElem?_eq_some_iff.1 hx).1
  have htm := fun S => applyF_tm (S := S) (r0 := r0) acc 0 s0 pl.nd pl.base
  have hhp := fun S => applyF_hp (S := S) (r0 := r0) acc 0 s0 (fun b hb => pl.hp b (by simpa using hb))
  have hsame := applyF_same (S := S) (r0 := r0) acc 0 s0
  have htake : ∀ (j : Nat) (y : Out), (acc.take i)[j]? = some y → acc[j]? = some y := fun j y h => by
    rw [List.getElem?_take] at h
    split at h
    · exact h
    · cases h
  have hle : Le (applyM r0 m (acc.take i) s0) (applyF S r0 0 acc s0) := by
    rw [applyM_F0]
    have hg : ∀ j, m.getD j false = true → S j = true := fun j hj => by
      refine hmS m hm j ?_
      rw [List.getD_eq_getElem?_getD] at hj
      cases hq : m[j]? with
      | none => rw [hq] at hj; cases hj
      | some b => rw [hq] at hj; simp at hj; rw [hj]
    refine ⟨fun t d h => ?_, fun b B h => ?_⟩
    · rw [applyF_tm (acc.take i) 0 s0 (fun j k y z u h1 h2 => pl.nd j k y z u (htake j y h1) (htake k z h2)) (fun j y t h1 => pl.base j y t (htake j y h1))] at h
      rw [htm]
      rcases h with ⟨j, y, h1, h2, h3⟩ | h1
      · exact .inl ⟨j, y, htake j y h1, hg _ h2, h3⟩
      · exact .inr h1
    · rw [applyF_hp (acc.take i) 0 s0 (fun b hb => pl.hp b (by simpa using hb))] at h
      rw [hhp]
      rcases h with ⟨j, y, h1, h2, h3⟩ | h1
      · exact .inl ⟨j, y, htake j y h1, hg _ h2, h3⟩
      · exact .inr h1
  have hcl : Clean (r0 + i) (applyF S r0 0 acc s0) := by
    have hc := pl.clean (r0 + i) (Nat.le_add_right _ _)
    have hold : ∀ (j : Nat) (y : Out), acc[j]? = some y → S j = true → (y.val (r0 + j)).kill (r0 + i) = y.val (r0 + j) := fun j y hj hSj => by
      obtain ⟨o', m', _, hm', _, _, hok', hw'⟩ := pl.out j y hj
      have hji : j ≠ i := fun e => by rw [e, hi] at hSj; cases hSj
      unfold Out.val
      cases hB : y.B with
      | none =>
        refine wild_kill (Nat.le_add_right _ _) (fun h => ?_) (hw' hB)
        rw [Nat.add_sub_cancel_left] at h
        have := hS j hSj m' hm' i h
        rw [hi] at this; cases this
      | some B =>
        rw [hB] at hok'
        exact (up_facts (k := 0) (n := r0 + j + 1) (Nat.lt_succ_self _) (by omega) hok'.1).2.2
    refine ⟨fun t d h => ?_, fun b B h => ?_, fun q t h => ?_, fun q f l h => ?_⟩
    · rw [htm] at h
      rcases h with ⟨j, y, h1, h2, h3, h4, h5⟩ | h1
      · rw [Nat.zero_add] at h2 h5
        rw [h5]
        exact hold j y h1 h2
      · exact hc.tm t d h1
    · rw [hhp] at h
      rcases h with ⟨j, y, h1, h2, h3, h4⟩ | h1
      · rw [Nat.zero_add] at h2 h4
        obtain ⟨o', m', _, _, _, _, hok', _⟩ := pl.out j y h1
        rw [h3] at hok'
        refine ⟨fun e => ?_, .inl hok'.2⟩
        have : j = i := by omega
        rw [this, hi] at h2; cases h2
      · exact hc.hp b B h1
    · rw [hsame.2.2.1] at h; exact hc.fr q t h
    · rw [hsame.2.2.2] at h; exact hc.df q f l h
  have hr : r0 + i < (applyF S r0 0 acc s0).nx := by rw [hsame.1]; have := pl.nx; omega
  have fin : ∀ φ' a' w', Rel C φ' (x.put (r0 + i) (applyF S r0 0 acc s0)) a' w' → next a' w' := fun φ' a' w' h => by
    obtain ⟨p1, p2, p3, p4⟩ := put_same (s := applyF S r0 0 acc s0) (r := r0 + i) (x := x)
    obtain ⟨q1, q2, q3, q4⟩ := applyF_same (S := fun j => S j || decide (j = i)) (r0 := r0) acc 0 s0
    obtain ⟨e1, e2, e3, e4⟩ := hsame
    refine hn φ' a' w' (h.sub (by rw [q1, p1, e1]) (by rw [q2, p2, e2]) (by rw [q3, p3, e3]) (by rw [q4, p4, e4]) (fun t d ht => ?_) fun b B => ?_)
    · rw [htm] at ht
      rw [put_tm, e2, htm]
      have key : ∀ (j : Nat) (y : Out), acc[j]? = some y → y.dst = some t → j ≠ i → ¬ (x.dst = some t ∧ t < s0.nt) := fun j y h1 h2 h3 h4 => h3 (pl.nd j i y x t h1 hx h2 h4.1)
      rcases ht with ⟨j, y, h1, h2, h3, h4, h5⟩ | h1
      · rw [Nat.zero_add] at h2 h5
        by_cases hji : j = i
        · subst hji
          rw [hx] at h1; cases h1
          exact .inl ⟨h3, h4, h5⟩
        · refine .inr ⟨key j y h1 h3 hji, .inl ⟨j, y, h1, ?_, h3, h4, by rw [Nat.zero_add]; exact h5⟩⟩
          rw [Nat.zero_add]
          simpa [hji] using h2
      · refine .inr ⟨fun h4 => ?_, .inr h1⟩
        rw [pl.base i x t hx h4.1] at h1; cases h1
    · rw [hhp, put_hp, hhp]
      constructor
      · rintro (⟨j, y, h1, h2, h3, h4⟩ | h1)
        · rw [Nat.zero_add] at h2 h4
          by_cases hji : j = i
          · subst hji
            rw [hx] at h1; cases h1
            exact .inl ⟨h3, h4⟩
          · refine .inr ⟨fun h5 => hji (by omega), .inl ⟨j, y, h1, ?_, h3, by rw [Nat.zero_add]; exact h4⟩⟩
            rw [Nat.zero_add]
            simpa [hji] using h2
        · refine .inr ⟨fun h4 => ?_, .inr h1⟩
          rw [h4.2, pl.hp _ (Nat.le_add_right _ _)] at h1; cases h1
      · rintro (⟨h1, h2⟩ | ⟨h1, ⟨j, y, h2, h3, h4, h5⟩ | h2⟩)
        · exact .inl ⟨i, x, hx, by simp, h1, by rw [Nat.zero_add]; exact h2⟩
        · exact .inl ⟨j, y, h2, by rw [h3]; rfl, h4, h5⟩
        · exact .inr h2
  have run : OutIs E (applyM r0 m (acc.take i) s0) o x → o.wp P a w next Q := fun h => by
    refine opE_good hE hR hG (out_op hE (outE_mono hE hle h)) _ _ fun φ' s' a' w' h1 h2 => ?_
    obtain ⟨d, B, h3, h4, h5⟩ := h2
    cases h3
    rw [h4, ← hdst] at h1
    obtain ⟨φ'', h6⟩ := step_put hR hcl hr h1 h5
    exact fin φ'' a' w' h6
  simp only [wpOp, ho]
  unfold OutOk at hout
  split at hout
  · rename_i hg
    have hw : Region.wanted o (yielded ops a.tmps) = true := by simp [Region.wanted, hg]
    rw [if_pos hw]
    exact .inl (run hout)
  · rename_i j want hg
    have skip : x.d = .tup [] → x.B = none → next (a.put o.dst undef) w := fun h2 h3 => by
      refine fin φ _ w ?_
      have := hR.put x.dst (d := .tup []) (v := undef) rd_skip
      rw [← hdst]
      unfold Out.put
      rw [h3, h2]
      exact this
    rcases hout with ⟨t, b, ht, hb, hcase⟩ | ⟨t, l, ht, hl, h2, h3⟩
    · have hwant := wants hR hg ht (hle.tm _ _ hb)
      rw [hwant]
      rcases hcase with ⟨h1, h2⟩ | ⟨h1, h2, h3⟩
      · rw [if_pos (by simp [h1])]
        exact .inl (run h2)
      · rw [if_neg (by simpa using h1)]
        exact skip h2 h3
    · rw [wants_not hR hg ht (hle.tm _ _ hl)]
      exact skip h2 h3
end Go.Proofs.YtppmomobjjpljaaDoor.E
end

/- Part KD7. -/
section
/- A calculus for Go functions over an abstract memory (regions that draw their order, part 7): drawE is sound. Conditions: those of each theorem. -/
namespace Go.Proofs.YtppmomobjjpljaaDoor.E
open Go Go.RowKit
set_option linter.unusedVariables false
set_option linter.unusedSimpArgs false
variable {P : Program} {E : Env} {φ : Nat → Nat} {w : World} {C : Ctx} {s : St} {a : Act} {o : Oper} {ops : Array Oper}

theorem orL_get : ∀ (x y : List Bool) (j : Nat), (orL x y)[j]? = some true → x[j]? = some true ∨ y[j]? = some true
  | [], y, j, h => .inr h
  | x :: l, [], j, h => .inl h
  | x :: l, y :: m, j, h => by
    cases j with
    | zero =>
      simp only [orL, List.getElem?_cons_zero, Option.some.injEq] at h ⊢
      cases x with
      | true => exact .inl rfl
      | false => exact .inr h
    | succ j => simp only [orL, List.getElem?_cons_succ] at h ⊢; exact orL_get l m j h
theorem bitL_get : ∀ (n j : Nat), (bitL n)[j]? = some true → j = n
  | 0, j, h => by cases j with
    | zero => rfl
    | succ j => simp [bitL] at h
  | n + 1, j, h => by cases j with
    | zero => simp [bitL] at h
    | succ j => simp only [bitL, List.getElem?_cons_succ] at h; rw [bitL_get n j h]
theorem nthL_get : ∀ (ms : List (List Bool)) (k j : Nat), (nthL ms k)[j]? = some true → ms[k]? = some (nthL ms k)
  | [], k, j, h => by simp [nthL] at h
  | m :: l, 0, j, h => rfl
  | m :: l, k + 1, j, h => by simp only [nthL] at h ⊢; exact nthL_get l k j h
theorem edgeMask_get {ms : List (List Bool)} {S : Nat → Bool} (hS : ∀ k, S k = true → ∀ m, ms[k]? = some m → ∀ j, m[j]? = some true → S j = true) : ∀ (l : List Edge), (∀ e, e ∈ l → bindsE e = true → S e.on = true) → ∀ j, (edgeMask ms l)[j]? = some true → S j = true
  | [], _, j, h => by simp [edgeMask] at h
  | e :: l, hl, j, h => by
    have ih := edgeMask_get hS l fun x hx => hl x (by simp [hx])
    simp only [edgeMask] at h
    split at h
    · rename_i hb
      have he := hl e (by simp) hb
      rcases orL_get _ _ _ h with h | h
      · rcases orL_get _ _ _ h with h | h
        · rw [bitL_get _ _ h]; exact he
        · exact hS _ he _ (nthL_get ms _ _ h) j h
      · exact ih j h
    · exact ih j h
theorem masksE_get : ∀ (l : List Oper) (ms : List (List Bool)), (masksE ms l).length = ms.length + l.length ∧ (masksE ms l).take ms.length = ms ∧ ∀ (i : Nat) (o : Oper), l[i]? = some o → (masksE ms l)[ms.length + i]? = some (edgeMask ((masksE ms l).take (ms.length + i)) o.after.toList)
  | [], ms => ⟨rfl, by simp [masksE], fun i o h => by simp at h⟩
  | o :: l, ms => by
    obtain ⟨h1, h2, h3⟩ := masksE_get l (ms ++ [edgeMask ms o.after.toList])
    simp only [masksE]
    simp only [List.length_append, List.length_cons, List.length_nil, Nat.zero_add] at h1 h2 h3
    have h4 : (masksE (ms ++ [edgeMask ms o.after.toList]) l).take ms.length = ms := by
      have := congrArg (List.take ms.length) h2
      rw [List.take_take, Nat.min_eq_left (by omega), List.take_left] at this
      exact this
    refine ⟨by rw [h1]; simp; omega, h4, fun i x hx => ?_⟩
    cases i with
    | zero =>
      simp at hx
      subst hx
      rw [Nat.add_zero, h4]
      have := congrArg (fun z => z[ms.length]?) h2
      simp only [List.getElem?_take_of_lt (Nat.lt_succ_self _)] at this
      rw [this]
      simp
    | succ i =>
      have := h3 i x (by simpa using hx)
      rw [show ms.length + (i + 1) = ms.length + 1 + i by omega]
      exact this
theorem fullMask_get : ∀ (n : Nat) (m : List Bool), fullMask n m = true → ∀ j, j < n → m[j]? = some true
  | 0, m, h, j, hj => by omega
  | n + 1, [], h, j, hj => by simp [fullMask] at h
  | n + 1, x :: l, h, j, hj => by
    simp only [fullMask] at h
    cases x with
    | false => cases h
    | true => cases j with
      | zero => rfl
      | succ j => simpa using fullMask_get n l h j (by omega)
theorem allFull_get : ∀ (i : Nat) (ms : List (List Bool)), allFull i ms = true → ∀ (k : Nat) (m : List Bool), ms[k]? = some m → ∀ j, j < i + k → m[j]? = some true
  | i, [], h, k, m, hm, j, hj => by simp at hm
  | i, x :: l, h, k, m, hm, j, hj => by
    simp only [allFull] at h
    split at h
    · rename_i hf
      cases k with
      | zero => simp at hm; subst hm; exact fullMask_get i x hf j (by omega)
      | succ k => exact allFull_get (i + 1) l h k m (by simpa using hm) j (by omega)
    · cases h
theorem edgesUp_get {i : Nat} : ∀ {l : List Edge}, edgesUp i l = true → ∀ e, e ∈ l → bindsE e = true → e.on < i
  | [], h, e, he, hb => by simp at he
  | x :: l, h, e, he, hb => by
    simp only [edgesUp] at h
    rcases List.mem_cons.1 he with rfl | he
    · rw [hb] at h
      simp only at h
      split at h
      · assumption
      · cases h
    · split at h
      · split at h
        · exact edgesUp_get h e he hb
        · cases h
      · exact edgesUp_get h e he hb
theorem lexUp_get : ∀ {l : List Oper} {i : Nat}, lexUp i l = true → ∀ (k : Nat) (o : Oper), l[k]? = some o → ∀ e, e ∈ o.after.toList → bindsE e = true → e.on < i + k
  | [], i, h, k, o, ho, e, he, hb => by simp at ho
  | x :: l, i, h, k, o, ho, e, he, hb => by
    simp only [lexUp] at h
    split at h
    · rename_i hu
      cases k with
      | zero => simp at ho; subst ho; exact edgesUp_get hu e he hb
      | succ k => have := lexUp_get h k o (by simpa using ho) e he hb; omega
    · cases h
theorem binds_any (e : Edge) : Region.binds .any e = bindsE e := by
  obtain ⟨on, g⟩ := e
  cases g <;> rfl
theorem memT_of {t : Nat} : ∀ {l : List (Option Tmp)} {j : Nat}, l[j]? = some (some t) → memT t l = true
  | [], j, h => by simp at h
  | o :: l, j, h => by
    cases j with
    | zero => simp at h; subst h; simp [memT]
    | succ j =>
      have := memT_of (l := l) (j := j) (by simpa using h)
      simp only [memT]
      split
      · split
        · rfl
        · exact this
      · exact this
theorem nodupT_get : ∀ {l : List (Option Tmp)}, nodupT l = true → ∀ {j k : Nat} {t : Nat}, l[j]? = some (some t) → l[k]? = some (some t) → j = k
  | [], h, j, k, t, hj, hk => by simp at hj
  | o :: l, h, j, k, t, hj, hk => by
    have hl : nodupT l = true := by
      simp only [nodupT] at h
      split at h
      · split at h
        · cases h
        · exact h
      · exact h
    have hne : ∀ {j : Nat}, o = some t → l[j]? = some (some t) → False := fun ho hjj => by
      subst ho
      have hm := memT_of hjj
      simp [nodupT, hm] at h
    cases j with
    | zero =>
      simp at hj
      cases k with
      | zero => rfl
      | succ k => exact (hne hj (by simpa using hk)).elim
    | succ j =>
      cases k with
      | zero => simp at hk; exact (hne hk (by simpa using hj)).elim
      | succ k =>
        have : j = k := nodupT_get hl (t := t) (by simpa using hj) (by simpa using hk)
        rw [this]
theorem dropT_get {ts : List (Option Tmp)} {t : Nat} : ∀ (T : List (Nat × D)), lk (dropT ts T) t = if memT t ts = true then none else lk T t
  | [] => by simp [dropT, lk]
  | (k, d) :: l => by
    have ih : lk (dropT ts l) t = if memT t ts = true then none else lk l t := dropT_get l
    simp only [dropT]
    split
    · rename_i hk
      rw [ih]
      by_cases hkt : k = t
      · subst hkt; simp [hk]
      · simp [lk, hkt]
    · rename_i hk
      by_cases hkt : k = t
      · subst hkt; simp [lk, hk]
      · simp [lk, hkt, ih]

/-- What drawGo's premise says. -/
theorem drawGo_inv (hE : EnvOk P E) {ts : List (Option Tmp)} {s0 : St} {r0 : Nat} {K : St → Prop} : ∀ (os : List Oper) (ms : List (List Bool)) (acc : List Out), ms.length = os.length → drawGo E ts s0 r0 acc.length os ms acc K →
    ∃ l : List Out, l.length ≤ os.length ∧ (∀ (j : Nat) (x : Out), l[j]? = some x → ∃ o m, os[j]? = some o ∧ ms[j]? = some m ∧ x.dst = o.dst ∧ OutOk E ts (applyM r0 m (acc ++ l.take j) s0) o x ∧ okOut x.d x.B ∧ (x.B = none → D.wild r0 m x.d = false)) ∧
      (∀ (j : Nat) (x : Out), l[j]? = some x → (preT acc.length (dsts os) ms)[j]? = some x.dst) ∧ allFull (acc.length + l.length) (ms.drop l.length) = true ∧ opsE E ts (os.drop l.length) (applyA r0 (acc ++ l) s0) K
  | [], ms, acc, hl, h => by
    have : ms = [] := List.eq_nil_of_length_eq_zero hl
    subst this
    exact ⟨[], by simp, fun j x hx => by simp at hx, fun j x hx => by simp at hx, rfl, by simpa [drawGo, opsE] using h⟩
  | o :: os, [], acc, hl, h => by simp at hl
  | o :: os, m :: ms, acc, hl, h => by
    unfold drawGo at h
    split at h
    · rename_i hf
      exact ⟨[], by simp, fun j x hx => by simp at hx, fun j x hx => by simp at hx, by simpa using hf, by simpa using h⟩
    · rename_i hnf
      have main : ∀ x : Out, x.dst = o.dst → OutOk E ts (applyM r0 m acc s0) o x → okOut x.d x.B → (x.B = none → D.wild r0 m x.d = false) → drawGo E ts s0 r0 (acc.length + 1) os ms (acc ++ [x]) K →
          ∃ l : List Out, l.length ≤ (o :: os).length ∧ (∀ (j : Nat) (x : Out), l[j]? = some x → ∃ o' m', (o :: os)[j]? = some o' ∧ (m :: ms)[j]? = some m' ∧ x.dst = o'.dst ∧ OutOk E ts (applyM r0 m' (acc ++ l.take j) s0) o' x ∧ okOut x.d x.B ∧ (x.B = none → D.wild r0 m' x.d = false)) ∧
            (∀ (j : Nat) (x : Out), l[j]? = some x → (preT acc.length (dsts (o :: os)) (m :: ms))[j]? = some x.dst) ∧ allFull (acc.length + l.length) ((m :: ms).drop l.length) = true ∧ opsE E ts ((o :: os).drop l.length) (applyA r0 (acc ++ l) s0) K := fun x h1 h2 h3 h4 h5 => by
        have hlen : acc.length + 1 = (acc ++ [x]).length := by simp
        rw [hlen] at h5
        obtain ⟨l, k1, k2, k5, k3, k4⟩ := drawGo_inv hE os ms (acc ++ [x]) (by simpa using hl) h5
        refine ⟨x :: l, by simpa using k1, fun j y hy => ?_, fun j y hy => ?_, ?_, ?_⟩
        · cases j with
          | zero =>
            simp at hy
            subst hy
            exact ⟨o, m, rfl, rfl, h1, by simpa using h2, h3, h4⟩
          | succ j =>
            obtain ⟨o', m', q1, q2, q3, q4, q5, q6⟩ := k2 j y (by simpa using hy)
            exact ⟨o', m', by simpa using q1, by simpa using q2, q3, by simpa using q4, q5, q6⟩
        · simp only [dsts, preT, hnf]
          cases j with
          | zero => simp at hy; subst hy; simp [h1]
          | succ j =>
            have := k5 j y (by simpa using hy)
            simpa using this
        · have : acc.length + (x :: l).length = (acc ++ [x]).length + l.length := by simp; omega
          rw [this]
          simpa using k3
        · simpa using k4
      simp only at h
      have go : ∀ {d : D} {B : Option Blk}, (match B with
          | none => match D.wild r0 m d with
            | true => False
            | false => drawGo E ts s0 r0 (acc.length + 1) os ms (acc ++ [⟨o.dst, d, B⟩]) K
          | some B' => match D.lt 1 d with
            | true => match B'.flat with
              | true => drawGo E ts s0 r0 (acc.length + 1) os ms (acc ++ [⟨o.dst, d, B⟩]) K
              | false => False
            | false => False) → OutOk E ts (applyM r0 m acc s0) o ⟨o.dst, d, B⟩ → ∃ l : List Out, l.length ≤ (o :: os).length ∧ (∀ (j : Nat) (x : Out), l[j]? = some x → ∃ o' m', (o :: os)[j]? = some o' ∧ (m :: ms)[j]? = some m' ∧ x.dst = o'.dst ∧ OutOk E ts (applyM r0 m' (acc ++ l.take j) s0) o' x ∧ okOut x.d x.B ∧ (x.B = none → D.wild r0 m' x.d = false)) ∧
            (∀ (j : Nat) (x : Out), l[j]? = some x → (preT acc.length (dsts (o :: os)) (m :: ms))[j]? = some x.dst) ∧ allFull (acc.length + l.length) ((m :: ms).drop l.length) = true ∧ opsE E ts ((o :: os).drop l.length) (applyA r0 (acc ++ l) s0) K := fun {d B} h hok => by
        cases B with
        | none =>
          simp only at h
          split at h
          · exact h.elim
          · rename_i hw
            exact main ⟨o.dst, d, none⟩ rfl hok trivial (fun _ => hw) h
        | some B' =>
          simp only at h
          split at h
          · rename_i hlt
            split at h
            · rename_i hf
              exact main ⟨o.dst, d, some B'⟩ rfl hok ⟨hlt, hf⟩ (fun h => by cases h) h
            · exact h.elim
          · exact h.elim
      have one : ∀ {F : D → Option Blk → Prop}, outE E o.op (applyM r0 m acc s0) F → ∃ d B, outE E o.op (applyM r0 m acc s0) (fun d' B' => (d', B') = (d, B)) ∧ F d B := fun {F} h => by
        obtain ⟨⟨d, B⟩, h1, h2⟩ := one_out (s := applyM r0 m acc s0) hE (fun x : OB => F x.1 x.2) h
        exact ⟨d, B, h1, h2⟩
      split at h
      · rename_i hg
        obtain ⟨d, B, h1, h2⟩ := one h
        exact go h2 (by unfold OutOk; rw [hg]; exact h1)
      · rename_i j want hg
        split at h
        · rename_i t ht
          split at h
          · rename_i b hb
            have yes : ∀ {d : D} {B : Option Blk}, b = want → outE E o.op (applyM r0 m acc s0) (fun d' B' => (d', B') = (d, B)) → OutOk E ts (applyM r0 m acc s0) o ⟨o.dst, d, B⟩ := fun h1 h2 => by
              unfold OutOk; rw [hg]; exact .inl ⟨t, b, ht, hb, .inl ⟨h1, h2⟩⟩
            have no : b ≠ want → OutOk E ts (applyM r0 m acc s0) o ⟨o.dst, .tup [], none⟩ := fun h1 => by
              unfold OutOk; rw [hg]; exact .inl ⟨t, b, ht, hb, .inr ⟨h1, rfl, rfl⟩⟩
            split at h
            · split at h
              · obtain ⟨d, B, h1, h2⟩ := one h
                exact go h2 (yes rfl h1)
              · exact go (B := none) h (no (by simp))
            · split at h
              · exact go (B := none) h (no (by simp))
              · obtain ⟨d, B, h1, h2⟩ := one h
                exact go h2 (yes rfl h1)
          · rename_i l hl
            exact go (B := none) h (by unfold OutOk; rw [hg]; exact .inr ⟨t, l, ht, hl, rfl, rfl⟩)
          · exact h.elim
        · exact h.elim
end Go.Proofs.YtppmomobjjpljaaDoor.E
end

/- Part KD8. -/
section
/- A calculus for Go functions over an abstract memory (regions that draw their order, part 8): drawE is sound. Conditions: those of each theorem. -/
namespace Go.Proofs.YtppmomobjjpljaaDoor.E
open Go Go.RowKit
set_option linter.unusedVariables false
set_option linter.unusedSimpArgs false
variable {P : Program} {E : Env} {φ : Nat → Nat} {w : World} {C : Ctx} {s : St} {a : Act} {o : Oper} {ops : Array Oper}

theorem getD_ft {L : Array Bool} {i : Nat} (hi : i < L.size) (b c : Bool) : L.getD i b = L.getD i c := by
  simp [Array.getD, hi]
theorem getD_ge {L : Array Bool} {i : Nat} (hi : L.size ≤ i) (b : Bool) : L.getD i b = b := by
  simp [Array.getD, Nat.not_lt.2 hi]
theorem getD_set {L : Array Bool} {i : Nat} (hi : i < L.size) (j : Nat) : (L.setIfInBounds i true).getD j false = (L.getD j false || decide (j = i)) := by
  by_cases h : j = i
  · subst h; simp [Array.getD, hi]
  · simp only [Array.getD_eq_getD_getElem?]
    rw [Array.getElem?_setIfInBounds_ne (Ne.symm h)]
    simp [h]
theorem orL_left : ∀ (m l : List Bool) (j : Nat), m[j]? = some true → (orL m l)[j]? = some true
  | [], l, j, h => by simp at h
  | x :: m, [], j, h => by simpa [orL] using h
  | x :: m, y :: l, j, h => by
    cases j with
    | zero => simp at h; subst h; simp [orL]
    | succ j => simp only [orL, List.getElem?_cons_succ]; exact orL_left m l j (by simpa using h)
theorem orL_right : ∀ (m l : List Bool) (j : Nat), l[j]? = some true → (orL m l)[j]? = some true
  | [], l, j, h => by simpa [orL] using h
  | x :: m, [], j, h => by simp at h
  | x :: m, y :: l, j, h => by
    cases j with
    | zero => simp at h; subst h; simp only [orL, List.getElem?_cons_zero]; cases x <;> rfl
    | succ j => simp only [orL, List.getElem?_cons_succ]; exact orL_right m l j (by simpa using h)
theorem edgeMask_has {ms : List (List Bool)} : ∀ {l : List Edge} {e : Edge}, e ∈ l → bindsE e = true → (edgeMask ms l)[e.on]? = some true
  | [], e, h, _ => by simp at h
  | x :: l, e, h, hb => by
    simp only [edgeMask]
    rcases List.mem_cons.1 h with h | h
    · subst h
      rw [hb]
      simp only
      refine orL_left _ _ _ (orL_left _ _ _ ?_)
      have : ∀ n : Nat, (bitL n)[n]? = some true := fun n => by induction n with
        | zero => rfl
        | succ n ih => simpa [bitL] using ih
      exact this _
    · have := edgeMask_has (ms := ms) h hb
      split
      · exact orL_right _ _ _ this
      · exact this
theorem getB_set : ∀ (L : List Bool) (i j : Nat), i < L.length → getB (setB L i) j = (getB L j || decide (j = i))
  | [], i, j, h => by simp at h
  | b :: L, 0, 0, h => by simp [setB, getB]
  | b :: L, 0, j + 1, h => by simp [setB, getB]
  | b :: L, i + 1, 0, h => by simp [setB, getB]
  | b :: L, i + 1, j + 1, h => by
    simp only [setB, getB, getB_set L i j (by simpa using h)]
    simp
theorem setB_len : ∀ (L : List Bool) (i : Nat), (setB L i).length = L.length
  | [], i => rfl
  | b :: L, 0 => rfl
  | b :: L, i + 1 => by simp [setB, setB_len L i]
theorem edges_done {L : List Bool} {A : Array Bool} (hA : ∀ i, A.getD i false = getB L i) : ∀ (l : List Edge), edgesDone L l = true ↔ ∀ e, e ∈ l → (!Region.binds .any e || A.getD e.on false) = true
  | [] => by simp [edgesDone]
  | e :: l => by
    simp only [edgesDone, List.mem_cons, forall_eq_or_imp, hA]
    rw [binds_any]
    cases h : bindsE e with
    | true =>
      cases h2 : getB L e.on with
      | true => simp only [edges_done hA l, hA]; simp
      | false => simp
    | false => simp only [edges_done hA l, hA]; simp
theorem each_get {L : List Bool} {F : Nat → Oper → Prop} : ∀ {os : List Oper} {k : Nat}, eachE L F k os → ∀ {i : Nat} {o : Oper}, os[i]? = some o → getB L (k + i) = false → edgesDone L o.after.toList = true → F (k + i) o
  | [], k, h, i, o, ho, _, _ => by simp at ho
  | x :: os, k, h, i, o, ho, h1, h2 => by
    simp only [eachE] at h
    cases i with
    | zero =>
      simp at ho
      subst ho
      rw [Nat.add_zero] at h1 ⊢
      rw [h1] at h
      simp only [h2] at h
      exact h.1
    | succ i =>
      have hr : eachE L F (k + 1) os := by
        split at h
        · exact h
        · split at h
          · exact h.2
          · exact h
      have := each_get hr (i := i) (by simpa using ho) (by rw [show k + 1 + i = k + (i + 1) by omega]; exact h1) h2
      rwa [show k + 1 + i = k + (i + 1) by omega] at this
theorem any_get {L : List Bool} : ∀ {os : List Oper} {k : Nat}, anyE L k os = false → ∀ {i : Nat} {o : Oper}, os[i]? = some o → getB L (k + i) = false → edgesDone L o.after.toList = true → False
  | [], k, h, i, o, ho, _, _ => by simp at ho
  | x :: os, k, h, i, o, ho, h1, h2 => by
    simp only [anyE] at h
    cases i with
    | zero =>
      simp at ho
      subst ho
      rw [Nat.add_zero] at h1
      rw [h1] at h
      simp [h2] at h
    | succ i =>
      have hr : anyE L (k + 1) os = false := by
        split at h
        · exact h
        · split at h
          · cases h
          · exact h
      exact any_get hr (i := i) (by simpa using ho) (by rw [show k + 1 + i = k + (i + 1) by omega]; exact h1) h2
theorem edgeOn_spec {i : Nat} : ∀ {l : List Edge}, edgeOn i l = false → ∀ e, e ∈ l → bindsE e = true → e.on ≠ i
  | [], _, e, he, _ => by simp at he
  | x :: l, h, e, he, hb => by
    simp only [edgeOn] at h
    rcases List.mem_cons.1 he with h1 | h1
    · subst h1
      rw [hb] at h
      simp only at h
      split at h
      · cases h
      · rename_i hn; intro hc; rw [hc] at hn; simp at hn
    · refine edgeOn_spec ?_ e h1 hb
      split at h
      · split at h
        · cases h
        · exact h
      · exact h
theorem freeE_spec {all : List Oper} {oi : Oper} {i : Nat} {L : List Bool} : ∀ {os : List Oper} {k : Nat}, freeE all oi i L k os = true → ∀ {j : Nat} {oj : Oper}, os[j]? = some oj → k + j ≠ i → getB L (k + j) = false → (∀ e, e ∈ oj.after.toList → bindsE e = true → e.on ≠ i) → oi.apart all.toArray oj = true
  | [], k, h, j, oj, hj, _, _, _ => by simp at hj
  | x :: os, k, h, j, oj, hj, h1, h2, h3 => by
    simp only [freeE] at h
    cases j with
    | zero =>
      simp at hj
      subst hj
      rw [Nat.add_zero] at h1 h2
      have hb : Nat.beq k i = false := by
        cases hq : Nat.beq k i with
        | false => rfl
        | true => exact absurd (Nat.eq_of_beq_eq_true hq) h1
      rw [hb, h2] at h
      simp only at h
      split at h
      · rename_i he
        exfalso
        have : ∀ {l : List Edge}, edgeOn i l = true → ∃ e, e ∈ l ∧ bindsE e = true ∧ e.on = i := by
          intro l
          induction l with
          | nil => intro h; simp [edgeOn] at h
          | cons y l ih =>
            intro h
            simp only [edgeOn] at h
            split at h
            · rename_i hb
              split at h
              · rename_i hq; exact ⟨y, by simp, hb, Nat.eq_of_beq_eq_true hq⟩
              · obtain ⟨e, h4, h5⟩ := ih h; exact ⟨e, by simp [h4], h5⟩
            · obtain ⟨e, h4, h5⟩ := ih h; exact ⟨e, by simp [h4], h5⟩
        obtain ⟨e, h4, h5, h6⟩ := this he
        exact h3 e h4 h5 h6
      · split at h
        · rename_i ha; exact ha
        · cases h
    | succ j =>
      have hr : freeE all oi i L (k + 1) os = true := by
        split at h
        · exact h
        · split at h
          · exact h
          · split at h
            · exact h
            · split at h
              · exact h
              · cases h
      exact freeE_spec hr (j := j) (by simpa using hj) (by rw [show k + 1 + j = k + (j + 1) by omega]; exact h1) (by rw [show k + 1 + j = k + (j + 1) by omega]; exact h2) h3
theorem firstM_spec {all : List Oper} {L : List Bool} : ∀ {os : List Oper} {k i : Nat} {o : Oper}, firstM all L k os = some (i, o) → ∃ j, i = k + j ∧ os[j]? = some o ∧ getB L i = false ∧ isMove o = true ∧ edgesDone L o.after.toList = true ∧ freeE all o i L 0 all = true
  | [], k, i, o, h => by simp [firstM] at h
  | x :: os, k, i, o, h => by
    simp only [firstM] at h
    have next : firstM all L (k + 1) os = some (i, o) → ∃ j, i = k + j ∧ (x :: os)[j]? = some o ∧ getB L i = false ∧ isMove o = true ∧ edgesDone L o.after.toList = true ∧ freeE all o i L 0 all = true := fun h => by
      obtain ⟨j, h1, h2, h3⟩ := firstM_spec h
      exact ⟨j + 1, by omega, by simpa using h2, h3⟩
    split at h
    · exact next h
    · rename_i h1
      split at h
      · exact next h
      · rename_i h2
        split at h
        · exact next h
        · rename_i h3
          split at h
          · rename_i h4
            cases h
            exact ⟨0, rfl, rfl, h1, h2, h3, h4⟩
          · exact next h
theorem noSel_spec : ∀ {l : List Oper}, noSel l = true → ∀ (j : Nat) (o : Oper) cs b, l[j]? = some o → o.op ≠ .select cs b
  | [], _, j, o, cs, b, hj => by simp at hj
  | x :: l, h, j, o, cs, b, hj => by
    simp only [noSel] at h
    split at h
    · cases h
    · rename_i hx
      cases j with
      | zero => simp at hj; subst hj; exact hx cs b
      | succ j => exact noSel_spec h j o cs b (by simpa using hj)
/-- No panic. -/
def calm (Q : Exit → Act → World → Prop) : Exit → Act → World → Prop
  | .panic _, _, _ => False
  | .outgrown, _, _ => False
  | e, a, w => Q e a w
theorem calm_le {Q : Exit → Act → World → Prop} {e : Exit} {a : Act} {w : World} (h : calm Q e a w) : Q e a w := by
  cases e <;> first | exact h | exact h.elim
theorem not_letsOut {Q : Exit → Act → World → Prop} : ¬ LetsOut (calm Q) := by
  intro h
  obtain ⟨a, w, h⟩ := h
  exact h
theorem letsOut_calm {Q : Exit → Act → World → Prop} (h : LetsOut (calm Q)) : LetsOut Q := (not_letsOut h).elim
theorem wpOp_calm {Q : Exit → Act → World → Prop} {i : Nat} {K K' : Act → World → Prop} (hK : ∀ a w, K a w → K' a w) {a : Act} {w : World} (h : wpOp P ops (calm Q) i K a w) : wpOp P ops Q i K' a w := by
  unfold wpOp at *
  split
  · rename_i ho
    simp only [ho] at h
    exact hK _ _ h
  · rename_i o ho
    simp only [ho] at h
    split
    · rename_i hw
      simp only [hw, if_true] at h
      rcases h with h | ⟨h1, h2⟩
      · refine .inl ?_
        unfold Oper.wp at *
        generalize (execOp a.eval o).run P w = r at *
        cases r with
        | ok n w' =>
          cases n <;> simp only [Oper.upon] at h ⊢ <;>
            first
              | exact hK _ _ h
              | exact Calls.mono h (fun e w'' he => by cases e <;> first | exact hK _ _ he | exact he.elim | exact letsOut_calm he)
              | exact Rows.mono h (fun _ _ he => hK _ _ he)
        | halt x w' => cases x <;> simp only [Oper.upon] at h ⊢ <;> first | exact h.elim | exact h
      · exact .inr ⟨h1, letsOut_calm h2⟩
    · rename_i hw
      simp only [hw] at h
      exact hK _ _ h
theorem wpAny_calm {Q : Exit → Act → World → Prop} {md : Region.Mode} : ∀ (fuel : Nat) (A : Array Bool) (a : Act) (w : World), wpAny P md ops (calm Q) fuel A a w → wpAny P md ops Q fuel A a w
  | 0, A, a, w, h => ⟨h.1, h.2⟩
  | fuel + 1, A, a, w, h => ⟨fun h0 => h.1 h0, fun i hi => wpOp_calm (fun a w => wpAny_calm fuel _ a w) (h.2 i hi)⟩
theorem all_any (hE : EnvOk P E) (hG : C.G = E.G) {K : St → Prop} {Q : Exit → Act → World → Prop} (hK : ∀ φ' s' a' w', Rel C φ' s' a' w' → K s' → Q .normal a' w') :
    ∀ (fuel : Nat) (L : List Bool) (A : Array Bool) (s : St) (φ : Nat → Nat) (a : Act) (w : World), A.size = ops.size → L.length = ops.size → (∀ i, A.getD i false = getB L i) → Rel C φ s a w →
      allE E (dsts ops.toList) ops.toList fuel L s K → wpAny P .any ops (calm Q) fuel A a w := by
  have hready : ∀ (L : List Bool) (A : Array Bool), A.size = ops.size → (∀ i, A.getD i false = getB L i) → ∀ i, i ∈ Region.ready .any ops A → ∃ o, ops[i]? = some o ∧ getB L i = false ∧ edgesDone L o.after.toList = true ∧ i < ops.size := by
    intro L A hs hA i hi
    simp only [Region.ready, List.mem_filter, List.mem_range, Bool.and_eq_true, Bool.not_eq_true'] at hi
    obtain ⟨h1, h2, h3⟩ := hi
    have ho : ops[i]? = some ops[i] := Array.getElem?_eq_getElem h1
    refine ⟨ops[i], ho, ?_, ?_, h1⟩
    · rw [← hA, getD_ft (by omega) false true]; exact h2
    · rw [ho] at h3
      simp only [Option.map_some, Option.getD_some] at h3
      refine (edges_done hA _).2 fun e he => ?_
      have := Array.all_eq_true_iff_forall_mem.1 h3 e (by simpa using he)
      exact this
  have hnone : ∀ (L : List Bool) (A : Array Bool), A.size = ops.size → (∀ i, A.getD i false = getB L i) → anyE L 0 ops.toList = false → Region.ready .any ops A = [] := by
    intro L A hs hA h
    rw [List.eq_nil_iff_forall_not_mem]
    intro i hi
    obtain ⟨o, h1, h2, h3, _⟩ := hready L A hs hA i hi
    exact any_get h (i := i) (by simpa using h1) (by rw [Nat.zero_add]; exact h2) h3
  intro fuel
  induction fuel with
  | zero =>
    intro L A s φ a w hs hl hA hR h
    simp only [allE] at h
    split at h
    · exact h.elim
    · rename_i hn
      exact ⟨hnone L A hs hA hn, hK _ _ _ _ hR h⟩
  | succ fuel ih =>
    intro L A s φ a w hs hl hA hR h
    simp only [allE] at h
    split at h
    · rename_i hn
      split at h
      · rename_i i o hf
        split at h
        · rename_i hsel
          obtain ⟨j, hj, h1, h2, h3, h4, h5⟩ := firstM_spec hf
          rw [Nat.zero_add] at hj
          subst hj
          have ho : ops[i]? = some o := by simpa using h1
          have hlt : i < ops.size := (Array.getElem?_eq_some_iff.1 ho).1
          obtain ⟨x, hx, hg⟩ : ∃ x, o.op = .move x ∧ o.guard = none := by
            unfold isMove at h3
            split at h3
            · rename_i hg
              split at h3
              · rename_i x hx; exact ⟨x, hx, hg⟩
              · cases h3
            · cases h3
          simp only [opsE, hg, hx, opE] at h
          obtain ⟨d, hd, h⟩ := getE_inv h
          have hR' : Rel C φ (s.set o.dst d) (a.put o.dst (a.eval x)) w := hR.put o.dst (opnd_rd hR hG hd)
          have hrest := ih (setB L i) (A.setIfInBounds i true) _ φ _ w (by simpa using hs) (by rw [setB_len]; exact hl) (fun j => by rw [getD_set (by omega), hA, getB_set _ _ _ (by omega)]) hR' h
          refine wpAny_first (v := a.eval x) ho (fun j oj cs b hj => noSel_spec hsel j oj cs b (by simpa using hj)) (fun c a w h => h) fuel A a w (fun j oj hj hne hun hno => ?_) ?_ (.inl ⟨by simp [Region.wanted, hg], fun w => by simp [execOp, hx]⟩) hrest
          · have hlj : j < ops.size := (Array.getElem?_eq_some_iff.1 hj).1
            have h6 := freeE_spec h5 (j := j) (oj := oj) (by simpa using hj) (by omega) (by rw [Nat.zero_add, ← hA, getD_ft (by omega) false true]; exact hun) (fun e he hb => hno e (by simpa using he) (by rw [binds_any]; exact hb))
            simpa using h6
          · simp only [Region.ready, List.mem_filter, List.mem_range, Bool.and_eq_true, Bool.not_eq_true']
            refine ⟨hlt, ?_, ?_⟩
            · rw [← getD_ft (by omega) false true, hA]; exact h2
            · rw [ho]
              simp only [Option.map_some, Option.getD_some]
              exact Array.all_eq_true_iff_forall_mem.2 fun e he => (edges_done hA _).1 h4 e (by simpa using he)
        · exact h.elim
      refine ⟨fun he => ?_, fun i hi => ?_⟩
      · exfalso
        have : ∀ (os : List Oper) (k : Nat), (∀ j o, os[j]? = some o → ops[k + j]? = some o) → anyE L k os = true → ∃ i, i ∈ Region.ready .any ops A := by
          intro os
          induction os with
          | nil => intro k _ h; simp [anyE] at h
          | cons o os iho =>
            intro k hk h
            simp only [anyE] at h
            have hnext := iho (k + 1) (fun j o hj => by rw [show k + 1 + j = k + (j + 1) by omega]; exact hk (j + 1) o (by simpa using hj))
            cases h1 : getB L k with
            | true => rw [h1] at h; exact hnext h
            | false =>
              rw [h1] at h
              cases h2 : edgesDone L o.after.toList with
              | true =>
                have ho : ops[k]? = some o := hk 0 o rfl
                have hlt : k < ops.size := (Array.getElem?_eq_some_iff.1 ho).1
                refine ⟨k, ?_⟩
                simp only [Region.ready, List.mem_filter, List.mem_range, Bool.and_eq_true, Bool.not_eq_true']
                refine ⟨hlt, ?_, ?_⟩
                · rw [← hA, getD_ft (by omega) false true] at h1; exact h1
                · rw [ho]
                  simp only [Option.map_some, Option.getD_some]
                  refine Array.all_eq_true_iff_forall_mem.2 fun e he => (edges_done hA _).1 h2 e (by simpa using he)
              | false => rw [h2] at h; exact hnext h
        obtain ⟨i, hi⟩ := this ops.toList 0 (fun j o hj => by rw [Nat.zero_add]; simpa using hj) hn
        rw [he] at hi
        simp at hi
      · obtain ⟨o, h1, h2, h3, h4⟩ := hready L A hs hA i hi
        have h5 := each_get h (i := i) (by simpa using h1) (by rw [Nat.zero_add]; exact h2) h3
        rw [Nat.zero_add] at h5
        refine op_step hE hG hR h1 h5 fun φ' s' a' w' h6 h7 => ih _ _ s' φ' a' w' (by simpa using hs) (by rw [setB_len]; exact hl) (fun j => ?_) h6 h7
        rw [getD_set (by omega), hA, getB_set _ _ _ (by omega)]
    · rename_i hn
      have hr := hnone L A hs hA hn
      exact ⟨fun _ => hK _ _ _ _ hR h, fun i hi => by rw [hr] at hi; simp at hi⟩
theorem getB_falses : ∀ (l : List Oper) (i : Nat), getB (falses l) i = false
  | [], i => rfl
  | _ :: l, 0 => rfl
  | _ :: l, i + 1 => getB_falses l i
theorem falses_len : ∀ l : List Oper, (falses l).length = l.length
  | [] => rfl
  | _ :: l => by simp [falses, falses_len l]
theorem least (p : Nat → Prop) : (∃ n, p n) → ∃ n, p n ∧ ∀ m, m < n → ¬ p m := by
  intro ⟨n, hn⟩
  induction n using Nat.strongRecOn with
  | ind n ih =>
    by_cases h : ∃ m, m < n ∧ p m
    · obtain ⟨m, h1, h2⟩ := h; exact ih m h1 h2
    · exact ⟨n, hn, fun m h1 h2 => h ⟨m, h1, h2⟩⟩
/-- What masks have to say: each operation may be taken to stand behind what its mask marks, if inert operations come as soon as they may. -/
structure GoodM (ops : Array Oper) (bs : List Bool) (M : List (List Bool)) : Prop where
  len : M.length = ops.size
  sub : ∀ (i : Nat) (o : Oper) (m : List Bool), ops[i]? = some o → M[i]? = some m → ∀ S : Nat → Bool, (∀ e, e ∈ o.after.toList → bindsE e = true → S e.on = true) →
    (∀ k, S k = true → ∀ m', M[k]? = some m' → ∀ j, m'[j]? = some true → S j = true) →
    (∀ p, p < i → bs[p]? = some true → ∀ op, ops[p]? = some op → (∀ e, e ∈ op.after.toList → bindsE e = true → S e.on = true) → S p = true) → ∀ j, m[j]? = some true → S j = true
def inertO (o : Oper) : Prop := o.guard = none ∧ ((∃ x, o.op = .move x) ∨ ∃ x i, o.op = .extract x i)
def Inert (ops : Array Oper) (bs : List Bool) (M : List (List Bool)) : Prop := ∀ p, bs[p]? = some true → ∃ o, ops[p]? = some o ∧ inertO o ∧
  (∀ (j : Nat) oj, ops[j]? = some oj → j ≠ p → (∀ m, M[p]? = some m → m[j]? ≠ some true) → (∀ e ∈ oj.after, Region.binds .any e = true → e.on ≠ p) → o.apart ops oj = true) ∧ ∀ (j : Nat) (o : Oper) cs b, ops[j]? = some o → o.op ≠ .select cs b
theorem inert_step {Q : Exit → Act → World → Prop} {i : Nat} {o : Oper} {K : Act → World → Prop} (ho : ops[i]? = some o) (hi : inertO o) (h : wpOp P ops (calm Q) i K a w) : ∃ v, Yields P ops o v a ∧ K (a.put o.dst v) w := by
  obtain ⟨hg, hi⟩ := hi
  have hw : Region.wanted o (yielded ops a.tmps) = true := by simp [Region.wanted, hg]
  unfold wpOp at h
  simp only [ho, hw, if_true] at h
  rcases h with h | ⟨_, h⟩
  · rcases hi with ⟨x, hx⟩ | ⟨x, j, hx⟩
    · refine ⟨a.eval x, .inl ⟨hw, fun w => by simp [execOp, hx]⟩, ?_⟩
      unfold Oper.wp at h
      simpa [execOp, hx, Oper.upon] using h
    · unfold Oper.wp at h
      cases hv : a.eval x with
      | tuple vs =>
        cases hq : vs[j]? with
        | some v =>
          refine ⟨v, .inl ⟨hw, fun w => by simp [execOp, hx, Instr.extract, hv, hq]⟩, ?_⟩
          simpa [execOp, hx, Instr.extract, hv, hq, Oper.upon] using h
        | none => simp [execOp, hx, Instr.extract, hv, hq, Oper.upon] at h
      | _ => simp [execOp, hx, Instr.extract, hv, Oper.upon] at h
  · exact (not_letsOut h).elim
theorem good_plain : GoodM ops [] (masksE [] ops.toList) := by
  have hmask := masksE_get ops.toList []
  simp only [List.length_nil, Nat.zero_add] at hmask
  refine ⟨by rw [hmask.1]; simp, fun i o m ho hm S hd hcl _ j hj => ?_⟩
  have hms : m = edgeMask ((masksE [] ops.toList).take i) o.after.toList := by
    have := hmask.2.2 _ _ (by simpa using ho)
    rw [hm] at this
    simpa using this
  rw [hms] at hj
  refine edgeMask_get (S := S) (fun k hk m' hm' => ?_) _ hd j hj
  rw [List.getElem?_take] at hm'
  split at hm'
  · exact hcl k hk m' hm'
  · cases hm'
theorem inert_nil {M : List (List Bool)} : Inert ops [] M := fun p hp => by simp at hp
theorem subB_get : ∀ {l m : List Bool}, subB l m = true → ∀ j : Nat, l[j]? = some true → m[j]? = some true
  | [], _, _, j, hj => by simp at hj
  | true :: l, true :: m, h, j, hj => by
    cases j with
    | zero => rfl
    | succ j => simpa using subB_get (l := l) (m := m) (by simpa [subB] using h) j (by simpa using hj)
  | true :: l, false :: m, h, j, hj => by simp [subB] at h
  | true :: l, [], h, j, hj => by simp [subB] at h
  | false :: l, _ :: m, h, j, hj => by
    cases j with
    | zero => simp at hj
    | succ j => simpa using subB_get (l := l) (m := m) (by simpa [subB] using h) j (by simpa using hj)
  | false :: l, [], h, j, hj => by
    cases j with
    | zero => simp at hj
    | succ j => have := subB_get (l := l) (m := []) (by simpa [subB] using h) j (by simpa using hj); simp at this
theorem closeRow_sub {S : Nat → Bool} : ∀ (bs : List Bool) (ms : List (List Bool)) (p : Nat) (m : List Bool), (∀ j, m[j]? = some true → S j = true) →
    (∀ q, bs[q]? = some true → ∀ mq, ms[q]? = some mq → (∀ j, mq[j]? = some true → S j = true) → S (p + q) = true) → ∀ j, (closeRow p bs ms m)[j]? = some true → S j = true
  | [], ms, p, m, h1, h2, j, hj => h1 j (by simpa [closeRow] using hj)
  | b :: bs, [], p, m, h1, h2, j, hj => h1 j (by simpa [closeRow] using hj)
  | b :: bs, mp :: ms, p, m, h1, h2, j, hj => by
    simp only [closeRow] at hj
    have hrest : ∀ q, bs[q]? = some true → ∀ mq, ms[q]? = some mq → (∀ j, mq[j]? = some true → S j = true) → S (p + 1 + q) = true := fun q hq mq hm hs => by
      have := h2 (q + 1) (by simpa using hq) mq (by simpa using hm) hs
      rwa [show p + (q + 1) = p + 1 + q by omega] at this
    split at hj
    · split at hj
      · rename_i hsub
        refine closeRow_sub bs ms (p + 1) _ (fun j hj => ?_) hrest j hj
        rcases orL_get _ _ _ hj with h | h
        · exact h1 j h
        · rw [bitL_get _ _ h]
          exact h2 0 rfl mp rfl (fun j hj => h1 j (subB_get hsub j hj))
      · exact closeRow_sub bs ms (p + 1) m h1 hrest j hj
    · exact closeRow_sub bs ms (p + 1) m h1 hrest j hj
theorem closeRow_le : ∀ (bs : List Bool) (ms : List (List Bool)) (p : Nat) (m : List Bool) (j : Nat), m[j]? = some true → (closeRow p bs ms m)[j]? = some true
  | [], ms, p, m, j, h => by simpa [closeRow] using h
  | b :: bs, [], p, m, j, h => by simpa [closeRow] using h
  | b :: bs, mp :: ms, p, m, j, h => by
    simp only [closeRow]
    split
    · split
      · exact closeRow_le bs ms (p + 1) _ j (orL_left _ _ _ h)
      · exact closeRow_le bs ms (p + 1) m j h
    · exact closeRow_le bs ms (p + 1) m j h
theorem closeMs_get {bs : List Bool} {all : List (List Bool)} : ∀ (ms : List (List Bool)) (k : Nat), (closeMs bs all k ms).length = ms.length ∧ ∀ i, (closeMs bs all k ms)[i]? = (ms[i]?).map (closeRow 0 (takeB (k + i) bs) all)
  | [], k => by simp [closeMs]
  | m :: ms, k => by
    obtain ⟨h1, h2⟩ := closeMs_get (bs := bs) (all := all) ms (k + 1)
    refine ⟨by simp [closeMs, h1], fun i => ?_⟩
    cases i with
    | zero => simp [closeMs]
    | succ i => simp only [closeMs, List.getElem?_cons_succ, h2 i, show k + 1 + i = k + (i + 1) by omega]
theorem takeB_get : ∀ (n : Nat) (l : List Bool) (q : Nat), (takeB n l)[q]? = if q < n then l[q]? else none
  | 0, l, q => by simp [takeB]
  | n + 1, [], q => by simp [takeB]
  | n + 1, b :: l, q => by
    cases q with
    | zero => simp [takeB]
    | succ q => simp only [takeB, List.getElem?_cons_succ, takeB_get n l q]; simp
theorem good_inert : GoodM ops (inertL ops.toList 0 ops.toList (masksE [] ops.toList)) (masksI ops.toList) := by
  have hp : GoodM ops [] (masksE [] ops.toList) := good_plain
  have hget := closeMs_get (bs := inertL ops.toList 0 ops.toList (masksE [] ops.toList)) (all := masksE [] ops.toList) (masksE [] ops.toList) 0
  refine ⟨by rw [masksI, hget.1]; exact hp.len, fun i o m ho hm S hd hcl hin j hj => ?_⟩
  rw [masksI, hget.2, Option.map_eq_some_iff] at hm
  obtain ⟨m0, hm0, rfl⟩ := hm
  have hcl0 : ∀ k, S k = true → ∀ m', (masksE [] ops.toList)[k]? = some m' → ∀ j, m'[j]? = some true → S j = true := fun k hk m' hm' j hj => by
    refine hcl k hk (closeRow 0 (takeB (0 + k) (inertL ops.toList 0 ops.toList (masksE [] ops.toList))) (masksE [] ops.toList) m') ?_ j (closeRow_le _ _ _ _ _ hj)
    rw [masksI, hget.2, hm']; rfl
  refine closeRow_sub _ _ 0 m0 (hp.sub i o m0 ho hm0 S hd hcl0 (fun p _ hb => by simp at hb)) (fun q hq mq hmq hs => ?_) j hj
  rw [takeB_get, Nat.zero_add] at hq
  split at hq
  · rename_i hqi
    rw [Nat.zero_add]
    have hql : q < ops.size := by
      have := (List.getElem?_eq_some_iff.1 hmq).1
      rw [hp.len] at this
      exact this
    have hop : ops[q]? = some ops[q] := Array.getElem?_eq_getElem hql
    refine hin q hqi hq ops[q] hop fun e he hb => ?_
    -- the edges of q are marked in its mask
    have hmask := masksE_get ops.toList []
    simp only [List.length_nil, Nat.zero_add] at hmask
    have hms : mq = edgeMask ((masksE [] ops.toList).take q) ops[q].after.toList := by
      have := hmask.2.2 _ _ (show ops.toList[q]? = some ops[q] by simp [hql])
      rw [hmq] at this
      simpa using this
    refine hs e.on ?_
    rw [hms]
    exact edgeMask_has he hb
  · cases hq
theorem inertL_get {all : List Oper} : ∀ {os : List Oper} {ms : List (List Bool)} {k p : Nat}, (inertL all k os ms)[p]? = some true → ∃ o m, os[p]? = some o ∧ ms[p]? = some m ∧ inertO o ∧ freeE all o (k + p) m 0 all = true
  | [], ms, k, p, h => by simp [inertL] at h
  | o :: os, [], k, p, h => by simp [inertL] at h
  | o :: os, m :: ms, k, p, h => by
    simp only [inertL] at h
    cases p with
    | succ p =>
      obtain ⟨o', m', h1, h0, h2, h3⟩ := inertL_get (os := os) (ms := ms) (k := k + 1) (p := p) (by simpa using h)
      exact ⟨o', m', by simpa using h1, by simpa using h0, h2, by rwa [show k + 1 + p = k + (p + 1) by omega] at h3⟩
    | zero =>
      simp only [List.getElem?_cons_zero, Option.some.injEq] at h
      split at h
      · rename_i hm
        unfold isMove at hm
        split at hm
        · rename_i hg
          split at hm
          · rename_i x hx; exact ⟨o, m, rfl, rfl, ⟨hg, .inl ⟨x, hx⟩⟩, h⟩
          · cases hm
        · cases hm
      · split at h
        · rename_i hm
          unfold isExtract at hm
          split at hm
          · rename_i hg
            split at hm
            · rename_i x i hx; exact ⟨o, m, rfl, rfl, ⟨hg, .inr ⟨x, i, hx⟩⟩, h⟩
            · cases hm
          · cases hm
        · cases h
theorem getB_get : ∀ {l : List Bool} {j : Nat}, getB l j = true → l[j]? = some true
  | [], j, h => by simp [getB] at h
  | b :: l, 0, h => by simp only [getB] at h; subst h; rfl
  | b :: l, j + 1, h => by simpa using getB_get (l := l) (j := j) (by simpa [getB] using h)
theorem inert_ok (hs : noSel ops.toList = true) : Inert ops (inertL ops.toList 0 ops.toList (masksE [] ops.toList)) (masksI ops.toList) := by
  intro p hp
  obtain ⟨o, m, h1, h0, h2, h3⟩ := inertL_get hp
  have hget := closeMs_get (bs := inertL ops.toList 0 ops.toList (masksE [] ops.toList)) (all := masksE [] ops.toList) (masksE [] ops.toList) 0
  refine ⟨o, by simpa using h1, h2, fun j oj hj hne hm hno => ?_, fun j o cs b hj => noSel_spec hs j o cs b (by simpa using hj)⟩
  have := freeE_spec h3 (j := j) (oj := oj) (by simpa using hj) (by omega) (by
    rw [Nat.zero_add]
    cases hq : getB m j with
    | false => rfl
    | true =>
      exfalso
      refine hm (closeRow 0 (takeB (0 + p) (inertL ops.toList 0 ops.toList (masksE [] ops.toList))) (masksE [] ops.toList) m) ?_ (closeRow_le _ _ _ _ _ (getB_get hq))
      rw [masksI, hget.2, h0]; rfl) (fun e he hb => by
      have := hno e (by simpa using he) (by rw [binds_any]; exact hb)
      omega)
  simpa using this
theorem any_go {M : List (List Bool)} {bs : List Bool} (hgood : GoodM ops bs M) (hinert : Inert ops bs M) (hE : EnvOk P E) (hG : C.G = E.G) {s0 : St} {r0 : Nat} {acc : List Out} (pl : Plan E ops s0 r0 M acc) {K : St → Prop} {Q : Exit → Act → World → Prop} (hlex : lexUp 0 ops.toList = true) (hp : acc.length ≤ ops.size)
    (hfull : ∀ (k : Nat) (m : List Bool), acc.length ≤ k → M[k]? = some m → ∀ j, j < k → m[j]? = some true) (hrest : opsE E (dsts ops.toList) (ops.toList.drop acc.length) (applyA r0 acc s0) K)
    (hQ : ∀ φ' s' a' w', Rel C φ' s' a' w' → K s' → Q .normal a' w') :
    ∀ (fuel : Nat) (L : Array Bool) (a : Act) (w : World), L.size = ops.size → (∀ k, L.getD k false = true → ∀ m, M[k]? = some m → ∀ j, m[j]? = some true → L.getD j false = true) →
      (∃ l : List Nat, l.length ≤ fuel ∧ ∀ j, j < ops.size → L.getD j false = false → j ∈ l) →
      (((∀ i, acc.length ≤ i → L.getD i false = false) ∧ ∃ φ, Rel C φ (applyF (fun j => L.getD j false) r0 0 acc s0) a w) ∨
        ∃ q φ s, acc.length ≤ q ∧ q ≤ ops.size ∧ (∀ j, j < q → L.getD j false = true) ∧ (∀ j, q ≤ j → L.getD j false = false) ∧ Rel C φ s a w ∧ opsE E (dsts ops.toList) (ops.toList.drop q) s K) →
      wpAny P .any ops (calm Q) fuel L a w := by
  have done : ∀ (L : Array Bool) (a : Act) (w : World), L.size = ops.size → (∀ j, j < ops.size → L.getD j false = true) → (((∀ i, acc.length ≤ i → L.getD i false = false) ∧ ∃ φ, Rel C φ (applyF (fun j => L.getD j false) r0 0 acc s0) a w) ∨
        ∃ q φ s, acc.length ≤ q ∧ q ≤ ops.size ∧ (∀ j, j < q → L.getD j false = true) ∧ (∀ j, q ≤ j → L.getD j false = false) ∧ Rel C φ s a w ∧ opsE E (dsts ops.toList) (ops.toList.drop q) s K) → Q .normal a w := by
    intro L a w hL hall hst
    rcases hst with ⟨h1, φ, h2⟩ | ⟨q, φ, s, h1, h2, h3, h4, h5, h6⟩
    · have hpe : acc.length = ops.size := by
        rcases Nat.lt_or_ge acc.length ops.size with h | h
        · have := hall _ h
          rw [h1 _ (Nat.le_refl _)] at this; cases this
        · omega
      rw [hpe, List.drop_of_length_le (by simp)] at hrest
      refine hQ φ _ a w ?_ hrest
      have := applyA_F (r0 := r0) acc 0 s0
      rw [Nat.add_zero] at this
      rw [this, ← applyF_congr (S := fun j => L.getD j false) acc 0 s0 (fun j _ hj => hall j (by omega))]
      exact h2
    · have hqe : q = ops.size := by
        rcases Nat.lt_or_ge q ops.size with h | h
        · have := hall _ h
          rw [h4 _ (Nat.le_refl _)] at this; cases this
        · omega
      rw [hqe, List.drop_of_length_le (by simp)] at h6
      exact hQ φ s a w h5 h6
  have hmask := hgood.len
  intro fuel
  induction fuel with
  | zero =>
    intro L a w hL hcl hcov hst
    obtain ⟨l, h1, h2⟩ := hcov
    have hnil : l = [] := List.eq_nil_of_length_eq_zero (by omega)
    subst hnil
    have hall : ∀ j, j < ops.size → L.getD j false = true := fun j hj => by
      cases hq : L.getD j false with
      | true => rfl
      | false => have := h2 j hj hq; simp at this
    refine ⟨?_, done L a w hL hall hst⟩
    refine List.eq_nil_iff_forall_not_mem.2 fun j hj => ?_
    obtain ⟨h3, o, h4, _⟩ := mem_ready.1 hj
    have hlt : j < ops.size := (Array.getElem?_eq_some_iff.1 h4).1
    have := hall j hlt
    rw [getD_ft (by omega) false true, h3] at this
    cases this
  | succ fuel ih =>
    intro L a w hL hcl hcov hst
    have hmiAll : ∀ i, i ∈ Region.ready .any ops L → (∀ p, p < i → bs[p]? = some true → p ∉ Region.ready .any ops L) → ∀ m, M[i]? = some m → ∀ j, m[j]? = some true → L.getD j false = true := by
      intro i hi hmin m hm j hj
      obtain ⟨h3, o, ho, hdeps⟩ := mem_ready.1 hi
      exact hgood.sub i o m ho hm (fun j => L.getD j false) (fun e he hb => hdeps e (by simpa using he) (by rw [binds_any]; exact hb)) hcl (fun p hp hb op hop hed => by
          cases hq : L.getD p false with
          | true => rfl
          | false =>
            exfalso
            have hlp : p < ops.size := (Array.getElem?_eq_some_iff.1 hop).1
            exact hmin p hp hb (mem_ready.2 ⟨by rw [getD_ft (by omega) true false]; exact hq, op, hop, fun e he hb2 => hed e (by simpa using he) (by rw [binds_any] at hb2; exact hb2)⟩)) j hj
    have step : ∀ i, i ∈ Region.ready .any ops L → (∀ p, p < i → bs[p]? = some true → p ∉ Region.ready .any ops L) → wpOp P ops (calm Q) i (wpAny P .any ops (calm Q) fuel (L.setIfInBounds i true)) a w := by
      intro i hi hmin
      obtain ⟨h3, o, ho, hdeps⟩ := mem_ready.1 hi
      have hlt : i < ops.size := (Array.getElem?_eq_some_iff.1 ho).1
      have hiL : L.getD i false = false := by rw [getD_ft (by omega) false true]; exact h3
      have hmi := hmiAll i hi hmin
      have hL' : (L.setIfInBounds i true).size = ops.size := by simpa using hL
      have hS' : ∀ j, (L.setIfInBounds i true).getD j false = (L.getD j false || decide (j = i)) := getD_set (by omega)
      have hcl' : ∀ k, (L.setIfInBounds i true).getD k false = true → ∀ m, M[k]? = some m → ∀ j, m[j]? = some true → (L.setIfInBounds i true).getD j false = true := fun k hk m hm j hj => by
        rw [hS'] at hk ⊢
        rw [Bool.or_eq_true] at hk ⊢
        rcases hk with hk | hk
        · exact .inl (hcl k hk m hm j hj)
        · have : k = i := by simpa using hk
          subst this
          exact .inl (hmi m hm j hj)
      have hcov' : ∃ l : List Nat, l.length ≤ fuel ∧ ∀ j, j < ops.size → (L.setIfInBounds i true).getD j false = false → j ∈ l := by
        obtain ⟨l, h1, h2⟩ := hcov
        refine ⟨l.erase i, ?_, fun j hj hf => ?_⟩
        · have := List.length_erase_of_mem (h2 i hlt hiL)
          have := List.length_pos_of_mem (h2 i hlt hiL)
          omega
        · rw [hS', Bool.or_eq_false_iff] at hf
          have hne : j ≠ i := by simpa using hf.2
          exact (List.mem_erase_of_ne hne).2 (h2 j hj hf.1)
      have second : ∀ φ s, acc.length ≤ i → (∀ j, j < i → L.getD j false = true) → (∀ j, i ≤ j → L.getD j false = false) → Rel C φ s a w → opsE E (dsts ops.toList) (ops.toList.drop i) s K → wpOp P ops (calm Q) i (wpAny P .any ops (calm Q) fuel (L.setIfInBounds i true)) a w := fun φ s h1 h2 h4 hR h => by
        have hdrop : ops.toList.drop i = o :: ops.toList.drop (i + 1) := by
          have hlt' : i < ops.toList.length := by simpa using hlt
          rw [List.drop_eq_getElem_cons hlt']
          congr 1
          have := ho
          rw [Array.getElem?_eq_getElem hlt] at this
          simpa using this
        rw [hdrop] at h
        refine op_step hE hG hR ho h fun φ' s' a' w' h5 h6 => ih _ a' w' hL' hcl' hcov' (.inr ⟨i + 1, φ', s', by omega, by omega, fun j hj => ?_, fun j hj => ?_, h5, h6⟩)
        · rw [hS', Bool.or_eq_true]
          by_cases hji : j = i
          · exact .inr (by simp [hji])
          · exact .inl (h2 j (by omega))
        · rw [hS', h4 j (by omega)]
          have : j ≠ i := by omega
          simp [this]
      have hmlt : i < M.length := by rw [hmask]; exact hlt
      rcases hst with ⟨h1, φ, h2⟩ | ⟨q, φ, s, h1, h2, h4, h5, h6, h7⟩
      · rcases Nat.lt_or_ge i acc.length with hip | hip
        · refine plan_step hE hG pl (S := fun j => L.getD j false) hcl (List.getElem?_eq_getElem hip) hmi hiL h2 fun φ' a' w' h => ih _ a' w' hL' hcl' hcov' (.inl ⟨fun k hk => ?_, φ', ?_⟩)
          · rw [hS', h1 k hk]
            have : k ≠ i := by omega
            simp [this]
          · have : (fun j => (L.setIfInBounds i true).getD j false) = fun j => L.getD j false || decide (j = i) := funext hS'
            rw [this]; exact h
        · have hall : ∀ j, j < i → L.getD j false = true := fun j hj => hmi _ (List.getElem?_eq_getElem hmlt) j (hfull i _ hip (List.getElem?_eq_getElem hmlt) j hj)
          have hie : i = acc.length := by
            rcases Nat.lt_or_ge acc.length i with h | h
            · have := hall _ h
              rw [h1 _ (Nat.le_refl _)] at this; cases this
            · omega
          refine second φ (applyA r0 acc s0) hip hall (fun j hj => h1 j (by omega)) ?_ (by rw [hie]; exact hrest)
          have := applyA_F (r0 := r0) acc 0 s0
          rw [Nat.add_zero] at this
          rw [this, ← applyF_congr (S := fun j => L.getD j false) acc 0 s0 (fun j _ hj => hall j (by omega))]
          exact h2
      · have hqi : q ≤ i := by
          rcases Nat.lt_or_ge i q with h | h
          · have := h4 i h
            rw [hiL] at this; cases this
          · exact h
        have hie : i = q := by
          rcases Nat.lt_or_ge q i with h | h
          · have := hmi _ (List.getElem?_eq_getElem hmlt) q (hfull i _ (by omega) (List.getElem?_eq_getElem hmlt) q h)
            rw [h5 _ (Nat.le_refl _)] at this; cases this
          · omega
        subst hie
        exact second φ s h1 h4 h5 h6 h7
    by_cases hex : ∃ p, bs[p]? = some true ∧ p ∈ Region.ready .any ops L
    · obtain ⟨p, ⟨hb, hp⟩, hmin⟩ := least (fun p => bs[p]? = some true ∧ p ∈ Region.ready .any ops L) hex
      have hst' := step p hp (fun q hq hqb hqr => hmin q hq ⟨hqb, hqr⟩)
      obtain ⟨o, ho, hin, hfree, hsel⟩ := hinert p hb
      obtain ⟨v, hy, hnext⟩ := inert_step ho hin hst'
      exact wpAny_first (v := v) ho hsel (fun c a w h => h) fuel L a w (fun j oj hj hne hun hno => hfree j oj hj hne (fun m hm hmj => by
        have h5 := hmiAll p hp (fun q hq hqb hqr => hmin q hq ⟨hqb, hqr⟩) m hm j hmj
        have hjl : j < ops.size := (Array.getElem?_eq_some_iff.1 hj).1
        rw [getD_ft (by omega) false true] at h5
        rw [hun] at h5; cases h5) hno) hp hy hnext
    refine ⟨fun hr => done L a w hL (fun j => ?_) hst, fun i hi => step i hi fun p hp hb hr => hex ⟨p, hb, hr⟩⟩
    induction j using Nat.strongRecOn with
      | ind j ihj =>
        intro hj
        cases hq : L.getD j false with
        | true => rfl
        | false =>
          have : j ∈ Region.ready .any ops L := by
            refine mem_ready.2 ⟨by rw [getD_ft (by omega) true false]; exact hq, ops[j], Array.getElem?_eq_getElem hj, fun e he hb => ?_⟩
            rw [binds_any] at hb
            have hlt := lexUp_get hlex j ops[j] (by simp [hj]) e (by simpa using he) hb
            exact ihj e.on (by omega) (by omega)
          rw [hr] at this
          cases this
theorem draw_main (hm : P.follows .mixedOrders = true) {E : Env} (hE : EnvOk P E) {C : Ctx} {id : Nat} {s : St} {Q : Exit → St → Prop} {φ : Nat → Nat} {a : Act} {w : World} (hG : C.G = E.G) (hR : Rel C φ s a w) {M : List (List Bool)} {bs : List Bool} (hgood : GoodM ops bs M) (hinert : Inert ops bs M)
    (h : drawW E M ops s (Q .normal)) : (Code.region id ops true).wp P (lift C Q) a w := by
  unfold drawW at h
  split at h
  · rename_i hlex
    split at h
    · rename_i hnd
      refine wp_region_any hm (wpAny_calm _ _ _ _ ?_)
      have hR : Rel C φ s a { w with drawn := w.drawn + 1 } := hR.drew 1
      obtain ⟨acc, h1, h2, h5, h3, h4⟩ := drawGo_inv hE ops.toList M [] (by rw [hgood.len]; simp) h
      simp only [List.nil_append, List.length_nil, Nat.zero_add] at h2 h3 h4 h5
      have hle : acc.length ≤ ops.size := by simpa using h1
      have hR0 : Rel C φ { s with tm := dropT (preT 0 (dsts ops.toList) M) s.tm, nx := s.nx + ops.size } a { w with drawn := w.drawn + 1 } :=
        (hR.raise (n := s.nx + ops.size) (Nat.le_add_right _ _)).sub rfl rfl rfl rfl (fun i d hd => by
          have := dropT_get (ts := preT 0 (dsts ops.toList) M) (t := i) s.tm
          simp only at hd
          rw [this] at hd
          split at hd
          · cases hd
          · exact hd) (fun b B => Iff.rfl)
      have hdst : ∀ (j : Nat) (x : Out) (t : Nat), acc[j]? = some x → x.dst = some t → (preT 0 (dsts ops.toList) M)[j]? = some (some t) := fun j x t hj ht => by
        rw [h5 j x hj, ht]
      have pl : Plan E ops { s with tm := dropT (preT 0 (dsts ops.toList) M) s.tm, nx := s.nx + ops.size } s.nx M acc := by
        refine ⟨fun j k x y t hj hk hx hy => nodupT_get hnd (hdst j x t hj hx) (hdst k y t hk hy), fun j x t hj ht => ?_, fun b hb => ?_, by simpa using hle, fun r hr => ?_, fun j x hj => ?_⟩
        · have := dropT_get (ts := preT 0 (dsts ops.toList) M) (t := t) s.tm
          simp only
          rw [this, if_pos (memT_of (hdst j x t hj ht))]
        · cases hq : lk s.hp b with
          | none => rfl
          | some B => have := (hR.hp b B hq).1; omega
        · have hc := hR.clean hr
          refine ⟨fun i d hd => hc.tm i d ?_, hc.hp, hc.fr, hc.df⟩
          have := dropT_get (ts := preT 0 (dsts ops.toList) M) (t := i) s.tm
          simp only at hd
          rw [this] at hd
          split at hd
          · cases hd
          · exact hd
        · obtain ⟨o, m, q1, q2, q3, q4, q5, q6⟩ := h2 j x hj
          exact ⟨o, m, by simpa using q1, q2, q3, q4, q5, q6⟩
      refine any_go (K := Q .normal) (Q := lift C Q) hgood hinert hE hG pl hlex hle (fun k m hk hm j hj => ?_) h4 (fun φ' s' a' w' k1 k2 => ⟨φ', s', k1, k2⟩) _ _ a _ (by simp) (fun k hk => ?_) ⟨List.range ops.size, by simp, fun j hj _ => by simpa using hj⟩ (.inl ⟨fun i _ => ?_, φ, ?_⟩)
      · refine allFull_get _ _ h3 (k - acc.length) m ?_ j (by omega)
        rw [List.getElem?_drop, Nat.add_sub_cancel' hk]; exact hm
      · exfalso
        rcases Nat.lt_or_ge k ops.size with h | h
        · simp [Array.getD, h] at hk
        · simp [Array.getD, Nat.not_lt.2 h] at hk
      · rcases Nat.lt_or_ge i ops.size with h | h
        · simp [Array.getD, h]
        · simp [Array.getD, Nat.not_lt.2 h]
      · rw [applyF_none]
        · exact hR0
        · intro j _
          rcases Nat.lt_or_ge j ops.size with h | h
          · simp [Array.getD, h]
          · simp [Array.getD, Nat.not_lt.2 h]
    · exact h.elim
  · exact h.elim
theorem draws_ok (hm : P.follows .mixedOrders = true) (E : Env) (hE : EnvOk P E) : Draws P E := by
  intro C id ops s Q φ a w hG hR h
  unfold drawE at h
  have main : ∀ (M : List (List Bool)) (bs : List Bool), GoodM ops bs M → Inert ops bs M → drawW E M ops s (Q .normal) → (Code.region id ops true).wp P (lift C Q) a w := by
    intro M bs hgood hinert h
    exact draw_main hm hE hG hR hgood hinert h
  split at h
  · exact main _ [] good_plain inert_nil h
  split at h
  rotate_left
  · exact h.elim
  rename_i hsel
  split at h
  · exact main _ _ good_inert (inert_ok hsel) h
  · refine wp_region_any hm (wpAny_calm _ _ _ _ (all_any (K := Q .normal) (Q := lift C Q) hE hG (fun φ' s' a' w' k1 k2 => ⟨φ', s', k1, k2⟩) ops.size (falses ops.toList) _ s φ a _ (by simp) (by simp [falses_len]) (fun i => ?_) (hR.drew 1) h))
    rw [getB_falses]
    rcases Nat.lt_or_ge i ops.size with h | h
    · simp [Array.getD, h]
    · simp [Array.getD, Nat.not_lt.2 h]
end Go.Proofs.YtppmomobjjpljaaDoor.E
end
