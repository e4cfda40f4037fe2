/- The pure statement of AddrBoth: the overlap of two ranges does not depend on their order and has exactly the pages of both. Condition: the three numbers are of type int. -/
import Derived.Test.YtmefcnfmbaajcaaPBox5
namespace Go.Proofs.Ytmefcnfmbaajcaa.Pure
open Go.RowKit Go.Proofs.Ytmefcnfmbaajcaa.PBo Go.Proofs.YtmefcnfmbaajcaaW.PrintWords Go.Proofs.YtmefcnfmbaajcaaW.PrintLast
set_option linter.unusedVariables false

theorem wrap_in {a : Int} (h0 : -9223372036854775808 ≤ a) (h1 : a ≤ 9223372036854775807) : wrap64 a = a := by unfold wrap64; omega
theorem mod_in {a b : Int} (hb : 1 ≤ b) (hb1 : b ≤ 1000000) : headgatekit_Mod.f a b = some (a % b) := by
  unfold headgatekit_Mod.f
  rw [if_neg (by omega), if_neg (by omega)]
  have h1 : Int.tmod a b = if 0 ≤ a ∨ b ∣ a then a % b else a % b - b := by
    rw [Int.tmod_eq_emod]
    split <;> simp <;> omega
  have h2 := Int.emod_nonneg a (show b ≠ 0 by omega)
  have h3 := Int.emod_lt_of_pos a (show 0 < b by omega)
  split
  · rename_i h
    rw [h1] at h ⊢
    split at h
    · omega
    · rename_i h4
      rw [if_neg h4, wrap_in (by omega) (by omega)]
      congr 1; omega
  · rename_i h
    rw [h1] at h ⊢
    split at h
    · rename_i h4; rw [if_pos h4]
    · omega
/-- A range that is made of a number is valid. -/
theorem made_in (a : Int) : ∃ x y : Int, headgatelaw03_made.f a = some (x, y) ∧ 0 ≤ x ∧ x ≤ y ∧ y < 64 := by
  have h0 := Int.emod_nonneg a (show (4096 : Int) ≠ 0 by omega)
  have h1 := Int.emod_lt_of_pos a (show (0 : Int) < 4096 by omega)
  unfold headgatelaw03_made.f
  rw [mod_in (by omega) (by omega)]
  simp only [Option.bind_some]
  generalize a % 4096 = m at *
  rw [Int.tdiv_eq_ediv_of_nonneg h0, Int.tmod_eq_emod_of_nonneg h0, wrap_in (by omega) (by omega)]
  refine ⟨_, _, rfl, ?_, ?_, ?_⟩ <;> (try unfold mn) <;> (try unfold mx) <;> (repeat' split) <;> omega
theorem check_in {x y : Int} (h0 : 0 ≤ x) (h1 : x ≤ y) (h2 : y < 64) : addr_Check.f x y = some 0 := by
  unfold addr_Check.f
  rw [if_neg (by omega), if_neg (by omega), if_neg (by omega)]
/-- The overlap of two valid ranges. -/
theorem overlap_in {x y u v : Int} (h0 : 0 ≤ x) (h1 : x ≤ y) (h2 : y < 64) (g0 : 0 ≤ u) (g1 : u ≤ v) (g2 : v < 64) :
    addr_Overlap.f 10 x y u v = if mx x u > mn y v then some (0, 0, false, 0) else some (mx x u, mn y v, true, 0) := by
  have r0 : rd_T23 [(⟨x, y⟩ : S23), (⟨u, v⟩ : S23)] 0 = ⟨x, y⟩ := rfl
  have r1 : rd_T23 [(⟨x, y⟩ : S23), (⟨u, v⟩ : S23)] 1 = ⟨u, v⟩ := rfl
  have w1 : wrap64 (0 + 1) = 1 := wrap_in (by omega) (by omega)
  have w2 : wrap64 (1 + 1) = 2 := wrap_in (by omega) (by omega)
  unfold addr_Overlap.f
  simp only [Option.bind_some, List.length_cons, List.length_nil]
  simp only [addr_Overlap.l0]
  simp only [r0, r1, w1, w2, check_in h0 h1 h2, check_in g0 g1 g2, Option.bind_some]
  simp
theorem awake : headgatelaw03_awake.f 10 = some true := by decide +kernel

theorem AddrBoth : headgatelaw03_AddrBoth.Pure := by
  intro n m p hn hm hp
  refine ⟨10, ?_⟩
  obtain ⟨x, y, e, h0, h1, h2⟩ := made_in n
  obtain ⟨u, v, e', g0, g1, g2⟩ := made_in m
  have p0 := Int.emod_nonneg p (show (64 : Int) ≠ 0 by omega)
  have p1 := Int.emod_lt_of_pos p (show (0 : Int) < 64 by omega)
  unfold headgatelaw03_AddrBoth.f
  rw [e, e', mod_in (by omega) (by omega)]
  simp only [Option.bind_some]
  generalize p % 64 = q at *
  rw [overlap_in h0 h1 h2 g0 g1 g2, overlap_in g0 g1 g2 h0 h1 h2, awake]
  have c1 : mx u x = mx x u := by unfold mx; (repeat' split) <;> omega
  have c2 : mn v y = mn y v := by unfold mn; (repeat' split) <;> omega
  rw [c1, c2]
  have m1 : ∀ z : Int, mx x u ≤ z ↔ x ≤ z ∧ u ≤ z := by intro z; unfold mx; split <;> omega
  have m2 : ∀ z : Int, z ≤ mn y v ↔ z ≤ y ∧ z ≤ v := by intro z; unfold mn; split <;> omega
  have m3 := m1 q
  have m4 := m2 q
  generalize mx x u = s at *
  generalize mn y v = t at *
  by_cases c : s > t
  · simp only [if_pos c, Option.bind_some]
    by_cases a1 : x ≤ q <;> by_cases a2 : q ≤ y <;> by_cases a3 : u ≤ q <;> by_cases a4 : q ≤ v <;> simp [a1, a2, a3, a4] <;> omega
  · simp only [if_neg c, Option.bind_some]
    by_cases a1 : x ≤ q <;> by_cases a2 : q ≤ y <;> by_cases a3 : u ≤ q <;> by_cases a4 : q ≤ v <;> by_cases a5 : s ≤ q <;> by_cases a6 : q ≤ t <;> simp [a1, a2, a3, a4, a5, a6] <;> omega

end Go.Proofs.Ytmefcnfmbaajcaa.Pure
