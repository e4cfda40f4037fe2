/- The pure statement of AddrBack: Page of Leaf is the page, Where of Address is the page and the word, addresses ascend. Condition: the two numbers are of type int. -/
import Derived.Test.YtmefcnfmbaajcaaPAllx5
import Derived.Test.YtmefcnfmbaajcaaU
namespace Go.Proofs.Ytmefcnfmbaajcaa.Pure
open Go.RowKit Go.Proofs.Ytmefcnfmbaajcaa.PAll Go.Proofs.YtmefcnfmbaajcaaW.PrintWords Go.Proofs.YtmefcnfmbaajcaaW.PrintLast Go.Proofs.Ytmefcnfmbaajcaa.U

theorem AddrBack : headgatelaw03_AddrBack.Pure := by
  intro n m hn hm
  refine ⟨12, ?_⟩
  have a0 := Int.emod_nonneg n (show (512 : Int) ≠ 0 by omega)
  have a1 := Int.emod_lt_of_pos n (show (0 : Int) < 512 by omega)
  have b0 := Int.emod_nonneg m (show (512 : Int) ≠ 0 by omega)
  have b1 := Int.emod_lt_of_pos m (show (0 : Int) < 512 by omega)
  unfold headgatelaw03_AddrBack.f
  rw [mod_in (by omega) (by omega), mod_in (by omega) (by omega)]
  simp only [Option.bind_some]
  generalize n % 512 = a at *
  generalize m % 512 = b at *
  rw [where_in (wf_of (by omega) (by omega)) a0 a1, where_in (wf_of (by omega) (by omega)) b0 b1]
  simp only [Option.bind_some]
  rw [address_in (by omega) (by omega) (by omega) (by omega), leaf_in (wf_of (by omega) (by omega)) (by omega) (by omega)]
  simp only [Option.bind_some]
  rw [page_in (by omega) (by omega) (by omega) (by omega)]
  simp only [Option.bind_some, if_true]
  rw [awake_ge (by omega)]
  simp only [Option.bind_some]
  rw [if_pos (by omega), if_pos (by omega), if_neg (by omega), if_neg (by omega), if_neg (by omega), if_neg (by omega)]
  by_cases h1 : a / 8 < b / 8
  · rw [if_pos h1, decide_eq_true (show a < b by omega)]; rfl
  · rw [if_neg h1]
    by_cases h2 : a / 8 = b / 8
    · rw [if_pos h2]
      have : decide (a < b) = decide (a % 8 < b % 8) := decide_eq_decide.2 (by omega)
      rw [this]; simp
    · rw [if_neg h2, decide_eq_false (show ¬ a < b by omega)]; rfl

end Go.Proofs.Ytmefcnfmbaajcaa.Pure
