/- Lemmas on memory blocks and on loops over iterator functions, for hand proofs of this seat. No condition beyond each lemma's own. -/
import Derived.RangeFuncNested
import Derived.RangeFuncLeaves
import Derived.Shelf.Abstract
import Derived.OwnWalkIn
import Derived.TacticsInMore
import Derived.LoopNIn
import Derived.LoopIn
import Derived.Lib.Hide
import Derived.Maps.AppendAt
import Derived.Test.YtmefcnfmbaajcaaWWords
import Derived.Test.YtmefcnfmbaajcaaWMore
namespace Go.Proofs.Ytmefcnfmbaajcaa.KIter
open Go.RowKit Go.Shelf Go.Proofs.YtmefcnfmbaajcaaW.PrintWords Go.Proofs.YtmefcnfmbaajcaaW.PrintMore
set_option linter.unusedVariables false

/-- Block B holds the cells cs of type t. -/
def Blk (W : World) (B : Nat) (cs : Array Value) (t : TypeId) : Prop := W.heap[B]? = some (.cells cs t (0, 0))
theorem Blk.new (W : World) (cs : Array Value) (t : TypeId) : Blk (W.alloc (.cells cs t)) W.heap.size cs t := World.alloc_heap_new W _
theorem Blk.lt {W : World} {B : Nat} {cs : Array Value} {t : TypeId} (h : Blk W B cs t) : B < W.heap.size := (Array.getElem?_eq_some_iff.1 h).1
theorem Blk.alloc {W : World} {B : Nat} {cs : Array Value} {t : TypeId} (h : Blk W B cs t) (o : Obj) : Blk (W.alloc o) B cs t := (Below.heap_alloc W o B h.lt).trans h
theorem Blk.same {W W' : World} {B : Nat} {cs : Array Value} {t : TypeId} (h : Blk W B cs t) (hb : W'.heap[B]? = W.heap[B]?) : Blk W' B cs t := hb.trans h
theorem Blk.below {W W' : World} {n B : Nat} {cs : Array Value} {t : TypeId} (h : Blk W B cs t) (hb : Below n W W') (hn : B < n) : Blk W' B cs t := (hb.block B hn).trans h
theorem Blk.cell {W : World} {B : Nat} {cs : Array Value} {t : TypeId} (h : Blk W B cs t) (j : Nat) : W.cell? ⟨B, j, none⟩ = cs[j]? := by simp [World.cell?, show W.heap[B]? = _ from h]
theorem Blk.frozen {W : World} {B : Nat} {cs : Array Value} {t : TypeId} (h : Blk W B cs t) (j : Nat) : W.frozen? ⟨B, j, none⟩ = false := by simp [World.frozen?, show W.heap[B]? = _ from h]
theorem Blk.set {W : World} {B : Nat} {cs : Array Value} {t : TypeId} (h : Blk W B cs t) (j : Nat) (u : Value) : Blk (W.setCell ⟨B, j, none⟩ u) B (cs.setIfInBounds j u) t := by
  obtain ⟨hlt, hk⟩ := Array.getElem?_eq_some_iff.1 h
  show (W.heap.modify B _)[B]? = _
  rw [Array.getElem?_eq_getElem (by rw [Array.size_modify]; exact hlt), Array.getElem_modify_self, hk]
  rfl
theorem Blk.other {W : World} {B B' : Nat} {cs : Array Value} {t : TypeId} (h : Blk W B cs t) (hne : B ≠ B') (j : Nat) (u : Value) : Blk (W.setCell ⟨B', j, none⟩ u) B cs t :=
  (Below.heap_setCell W ⟨B', j, none⟩ u B hne).trans h
theorem blk_own (B : Nat) (cs : Array Value) (t : TypeId) : Own (fun (_ : Unit) W => Blk W B cs t) := fun s X Y row hs hg hrow =>
  (grownBy_keeps_cells hg hrow hs rfl).trans hs
theorem blk_ownF {β : Type} (B : Nat) (f : β → Array Value) (t : TypeId) : Own (fun (s : β) W => Blk W B (f s) t) := fun s X Y row hs hg hrow =>
  (grownBy_keeps_cells hg hrow hs rfl).trans hs

/-- What an iterator wants kept: all below n₀, and block B. -/
def KB (n₀ B : Nat) (W W' : World) : Prop := Below n₀ W W' ∧ W'.heap[B]? = W.heap[B]?
theorem KB.refl (n₀ B : Nat) (W : World) : KB n₀ B W W := ⟨Below.refl _ _, rfl⟩
theorem KB.t {n₀ B : Nat} {X Y Z : World} (h : KB n₀ B X Y) (k : KB n₀ B Y Z) : KB n₀ B X Z := ⟨h.1.trans k.1, k.2.trans h.2⟩
theorem KB.b {n₀ B : Nat} {w : World} (hn : n₀ ≤ w.heap.size) (hB : B < w.heap.size) (W : World) (l : Nat) (o o' : Obj) (hl : w.heap.size ≤ l) (h : W.heap[l]? = some o) (hc : o.isCells = false) (hw : o.isWalk = false) : KB n₀ B W (W.putObj l o') :=
  ⟨belowK_b hn W l o o' hl h hc hw, World.putObj_heap_other (by omega)⟩
theorem KB.alloc {n₀ B : Nat} {W : World} (hn : n₀ ≤ W.heap.size) (hB : B < W.heap.size) (o : Obj) : KB n₀ B W (W.alloc o) := ⟨(Below.refl _ W).alloc hn o, Below.heap_alloc W o B hB⟩

/-- 'out = append(out, ..)', out in a box that lies below the row's base: what the loop's body owes behind the append law's two words. -/
theorem appendedK {W w1 : World} {base B : Nat} {t e : TypeId} {size : Nat} {v v' : Value} {k m : Nat} {xs ys : List Value} {tmp : Obj}
    (hv : Boxed W B t v) (hBb : B < base) (hb : base ≤ W.heap.size) (hrow : W.ownsRow base e size v k xs)
    (hown' : w1.ownsRow base e size v' m ys) (hgrow : (W.alloc tmp).grownBy w1 v.ownBlock) :
    Boxed w1 B t v ∧ Boxed (w1.setCell ⟨B, 0, none⟩ v') B t v' ∧ (w1.setCell ⟨B, 0, none⟩ v').ownsRow base e size v' m ys ∧ KeepsOthers W (w1.setCell ⟨B, 0, none⟩ v') ∧
    (∀ n₀, n₀ ≤ B → Below n₀ W (w1.setCell ⟨B, 0, none⟩ v')) ∧ (∀ j, j < base → j ≠ B → (w1.setCell ⟨B, 0, none⟩ v').heap[j]? = W.heap[j]?) := by
  have hne : some B ≠ v.ownBlock := by
    intro e'
    have := (hrow.lt B e'.symm).1
    omega
  have hv1 : Boxed w1 B t v := (hv.alloc tmp).kept hgrow hne
  have hne' : v'.ownBlock ≠ some B := by
    intro e'
    have := (hown'.lt B e').1
    omega
  have hrb : ∀ j, v.ownBlock = some j → base ≤ j := fun j ej => (hrow.lt j ej).1
  refine ⟨hv1, hv1.set v', hown'.kept (grownBy_setCell' w1 B v') (.inr hne'), ?_, ?_, ?_⟩
  · refine ((KeepsOthers.alloc W tmp).trans (KeepsOthers.of_grownBy hgrow fun j o ej hj => ?_)).trans (KeepsOthers.setCell _ _ _)
    rcases (hrow.alloc tmp).2 with ⟨rfl, _⟩ | ⟨g, cap, cur, rfl, _, hgb, _⟩
    · simp [Value.ownBlock] at ej
    · obtain rfl : g = j := by simpa [Value.ownBlock] using ej
      rw [hgb] at hj; cases hj; rfl
  · intro n₀ hn₀
    refine (((Below.refl n₀ W).alloc (by omega) tmp).grown hgrow (by simp; omega) fun j ej => ?_).setCell (p := ⟨B, 0, none⟩) hn₀ v'
    have := hrb j ej; omega
  · intro j hj hjB
    rw [Below.heap_setCell _ _ _ _ hjB, hgrow.block j (by simp; omega) (fun e' => by have := hrb j e'.symm; omega)]
    exact Below.heap_alloc W tmp j (by omega)

theorem cells_new (W : World) (cs : Array Value) (t : TypeId) : ∀ j u, cs.toList[j]? = some u → (W.alloc (.cells cs t)).cell? ((⟨W.heap.size, 0, none⟩ : Addr).add j) = some u := by
  intro j u h
  have h1 := (Blk.new W cs t).cell j
  have h2 : ((⟨W.heap.size, 0, none⟩ : Addr).add j) = ⟨W.heap.size, j, none⟩ := by
    unfold Addr.add
    split
    · rename_i h0; have h0' : j = 0 := by simpa using h0
      rw [h0']
    · simp
  rw [h2, h1]
  simpa using h

/-- A list of one-cell values, read out of cells that lie in a row. -/
theorem C_of_cells {α : Type} {enc : α → Value} {h1 : ∀ x, (enc x).oneCell' = true} {w : World} {ad : Addr} {xs : List α} (hl : xs.length ≤ 9223372036854775807)
    (h : ∀ j p, xs[j]? = some p → w.cell? (ad.add j) = some (enc p)) : (Kd.scalar enc h1).C w (some ad) xs.length xs :=
  ⟨rfl, hl, fun _ => ⟨ad, rfl, fun j p hj => ⟨[enc p], rfl, rfl, fun i u hu => by
    cases i with
    | zero =>
      simp only [List.getElem?_cons_zero, Option.some.injEq] at hu
      subst hu
      have e : j * (Kd.scalar enc h1).sz + 0 = j := by show j * 1 + 0 = j; omega
      rw [e]; exact h j p hj
    | succ i => simp at hu⟩⟩⟩
theorem C_new {α : Type} {enc : α → Value} {h1 : ∀ x, (enc x).oneCell' = true} (w : World) (xs : List α) (t : TypeId) (hl : xs.length ≤ 9223372036854775807) :
    (Kd.scalar enc h1).C (w.alloc (.cells (xs.map enc).toArray t)) (some ⟨w.heap.size, 0, none⟩) xs.length xs :=
  C_of_cells hl fun j p hj => cells_new w _ t j _ (by simp [hj])

theorem snoc_ind {α : Type} {P : List α → Prop} (h0 : P []) (h1 : ∀ xs x, P xs → P (xs ++ [x])) : ∀ xs, P xs := by
  intro xs
  have : ∀ n (xs : List α), xs.length = n → P xs := by
    intro n
    induction n with
    | zero => intro xs h; rw [List.length_eq_zero_iff.1 h]; exact h0
    | succ n ih =>
      intro xs h
      have hne : xs ≠ [] := by intro e; rw [e] at h; simp at h
      rw [← List.dropLast_concat_getLast hne]
      exact h1 _ _ (ih _ (by simp [h]))
  exact this _ xs rfl

/-- A row that a slice owns, as the printed contracts say it. -/
theorem R_of_owns {α : Type} {d : Kd α} {e : Nat} {w : World} {base : Nat} {v : Value} {xs : List α} {inner : List Value} (ho : w.ownsRow base e d.sz v xs.length inner)
    (hr : ∀ ok, Reps (d.M w base ok) d.sz xs inner) : d.R e w base (fun _ => True) v xs := ⟨fun _ _ => trivial, inner, ho, hr _⟩
theorem reps_scalar {α : Type} {enc : α → Value} {h1 : ∀ x, (enc x).oneCell' = true} {w : World} {base : Nat} {ok : Nat → Prop} : ∀ xs : List α, Reps ((Kd.scalar enc h1).M w base ok) 1 xs (xs.map enc) := by
  refine snoc_ind (Reps.none _ _) fun xs x ih => ?_
  rw [List.map_append]; exact ih.snoc (show [enc x] = [enc x] from rfl) rfl
end Go.Proofs.Ytmefcnfmbaajcaa.KIter
