/- Several stores into one block, told at once. No condition beyond each lemma's own. -/
import Derived.Test.YtmefcnfmbaajcaaWMore
namespace Go.Proofs.Ytmefcnfmbaajcaa.KFar
open Go.RowKit Go.Proofs.YtmefcnfmbaajcaaW.PrintWords Go.Proofs.YtmefcnfmbaajcaaW.PrintLast Go.Proofs.YtmefcnfmbaajcaaW.PrintMore
set_option linter.unusedVariables false

/-- The world behind the stores of 'l' into the block g. -/
def puts (w : World) (g : Nat) (l : List (Nat × Value)) : World := l.foldl (fun w p => w.setCell ⟨g, p.1, none⟩ p.2) w
theorem R_put {α : Type} {d : Kd α} {e base g : Nat} {ok : Nat → Prop} {v : Value} {xs : List α} (hok : ∀ k, ok k → k ≠ g) :
    ∀ (l : List (Nat × Value)) {w : World}, d.R e w base ok v xs → d.R e (puts w g l) base ok v xs
  | [], w, h => h
  | p :: l, w, h => R_put hok l (w := w.setCell ⟨g, p.1, none⟩ p.2) (Kd.R_far (p := ⟨g, p.1, none⟩) h hok p.2)
/-- A row of one's own, behind stores into a block of another type. -/
theorem R_puts {α : Type} {d : Kd α} {e base g t : Nat} {ok : Nat → Prop} {v : Value} {xs : List α} {w : World} {cells : Array Value} (h : d.R e w base ok v xs)
    (hb : w.heap[g]? = some (.cells cells t (0, 0))) (ht : ∀ q, q ∈ e :: d.E → q ≠ t) (l : List (Nat × Value)) : d.R e (puts w g l) base ok v xs :=
  Kd.R_mono (R_put (fun _ hk => hk.2) l (Kd.R_types h hb ht)) (fun _ hk => hk.1)
theorem take_len {α : Type} {xs : List α} {j : Int} (h0 : 0 ≤ j) (hm : j ≤ xs.length) : j.toNat = (xs.take j.toNat).length := by
  rw [List.length_take]; omega
end Go.Proofs.Ytmefcnfmbaajcaa.KFar
