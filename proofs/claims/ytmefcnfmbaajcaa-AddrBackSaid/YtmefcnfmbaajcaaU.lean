/- Plain facts on the functions of layer 3 (addr) as they are printed: what pages, leaves, addresses and ranges come to. No condition beyond each lemma's own. -/
import Derived.Test.YtmefcnfmbaajcaaPAllx4
namespace Go.Proofs.Ytmefcnfmbaajcaa.U
open Go.RowKit Go.Proofs.Ytmefcnfmbaajcaa.PAll Go.Proofs.YtmefcnfmbaajcaaW.PrintWords Go.Proofs.YtmefcnfmbaajcaaW.PrintLast
set_option linter.unusedVariables false

theorem wf64 {a : Int} (h : (Lit.int .i64 a).wf = true) : -9223372036854775808 ≤ a ∧ a ≤ 9223372036854775807 := by
  have h' := h; simp [Lit.wf, IntKind.min, IntKind.max, IntKind.signed, IntKind.bits] at h'; omega
theorem wrap_in {a : Int} (h0 : -9223372036854775808 ≤ a) (h1 : a ≤ 9223372036854775807) : wrap64 a = a := by unfold wrap64; omega
theorem uwrap_in {a : Int} (h0 : 0 ≤ a) (h1 : a ≤ 9223372036854775807) : IntKind.u64.wrap a = a := by
  simp [IntKind.wrap, IntKind.bits, IntKind.signed]; omega
theorem uwrap_neg {a : Int} (h0 : a < 0) (h1 : -9223372036854775808 ≤ a) : IntKind.u64.wrap a = a + 18446744073709551616 := by
  simp [IntKind.wrap, IntKind.bits, IntKind.signed]; omega
theorem below_yes {n L : Int} (hn : (Lit.int .i64 n).wf = true) (hL0 : 0 ≤ L) (hL : L ≤ 1000) (h0 : 0 ≤ n) (h1 : n < L) : addr_below.f n L = some true := by
  unfold addr_below.f
  rw [uwrap_in h0 (by omega), uwrap_in hL0 (by omega)]
  simp [h1]
theorem below_no {n L : Int} (hn : (Lit.int .i64 n).wf = true) (hL0 : 0 ≤ L) (hL : L ≤ 1000) (h : n < 0 ∨ L ≤ n) : addr_below.f n L = some false := by
  have := wf64 hn
  unfold addr_below.f
  rw [uwrap_in hL0 (by omega)]
  rcases h with h | h
  · rw [uwrap_neg h (by omega)]; simp; omega
  · rw [uwrap_in (by omega) (by omega)]; simp; omega
theorem and7 {n : Int} (h0 : 0 ≤ n) (h1 : n < 512) : Go.bits .and .u64 n 7 = n % 8 := by
  obtain ⟨k, rfl⟩ := Int.eq_ofNat_of_zero_le h0
  have h : ∀ k : Fin 512, Go.bits .and .u64 ((k.val : Nat) : Int) 7 = ((k.val : Nat) : Int) % 8 := by decide +kernel
  exact h ⟨k, by omega⟩
theorem or8 {p w : Int} (h0 : 0 ≤ p) (h1 : p < 64) (h2 : 0 ≤ w) (h3 : w < 8) : Go.bits .or .u64 (p * 8) w = p * 8 + w := by
  obtain ⟨k, rfl⟩ := Int.eq_ofNat_of_zero_le h0
  obtain ⟨j, rfl⟩ := Int.eq_ofNat_of_zero_le h2
  have h : ∀ (k : Fin 64) (j : Fin 8), Go.bits .or .u64 (((k.val : Nat) : Int) * 8) ((j.val : Nat) : Int) = ((k.val : Nat) : Int) * 8 + ((j.val : Nat) : Int) := by decide +kernel
  exact h ⟨k, by omega⟩ ⟨j, by omega⟩
theorem leaf_in {n : Int} (hn : (Lit.int .i64 n).wf = true) (h0 : 0 ≤ n) (h1 : n < 64) : addr_Leaf.f n = some (n / 8, n % 8, 0) := by
  unfold addr_Leaf.f
  rw [below_yes hn (by omega) (by omega) h0 h1, uwrap_in h0 (by omega), and7 h0 (by omega), wrap_in (by omega) (by omega), wrap_in (by omega) (by omega)]
  simp
theorem leaf_out {n : Int} (hn : (Lit.int .i64 n).wf = true) (h : n < 0 ∨ 64 ≤ n) : addr_Leaf.f n = some (0, 0, 2) := by
  unfold addr_Leaf.f
  rw [below_no hn (by omega) (by omega) h]
  simp
theorem where_in {n : Int} (hn : (Lit.int .i64 n).wf = true) (h0 : 0 ≤ n) (h1 : n < 512) : addr_Where.f n = some (n / 8, n % 8, 0) := by
  unfold addr_Where.f
  rw [below_yes hn (by omega) (by omega) h0 h1, uwrap_in h0 (by omega), and7 h0 (by omega), wrap_in (by omega) (by omega), wrap_in (by omega) (by omega)]
  simp
theorem where_out {n : Int} (hn : (Lit.int .i64 n).wf = true) (h : n < 0 ∨ 512 ≤ n) : addr_Where.f n = some (0, 0, 2) := by
  unfold addr_Where.f
  rw [below_no hn (by omega) (by omega) h]
  simp
theorem wf_of {a : Int} (h0 : -9223372036854775808 ≤ a) (h1 : a ≤ 9223372036854775807) : (Lit.int .i64 a).wf = true := by
  simp [Lit.wf, IntKind.min, IntKind.max, IntKind.signed, IntKind.bits]
  omega
theorem page_in {a b : Int} (h0 : 0 ≤ a) (h1 : a < 8) (h2 : 0 ≤ b) (h3 : b < 8) : addr_Page.f a b = some (a * 8 + b, 0) := by
  unfold addr_Page.f
  rw [below_yes (wf_of (by omega) (by omega)) (by omega) (by omega) h0 h1, below_yes (wf_of (by omega) (by omega)) (by omega) (by omega) h2 h3, uwrap_in h0 (by omega), uwrap_in h2 (by omega), uwrap_in (by omega) (by omega), or8 h0 (by omega) h2 h3, wrap_in (by omega) (by omega)]
  simp
theorem address_in {a b : Int} (h0 : 0 ≤ a) (h1 : a < 64) (h2 : 0 ≤ b) (h3 : b < 8) : addr_Address.f a b = some (a * 8 + b, 0) := by
  unfold addr_Address.f
  rw [below_yes (wf_of (by omega) (by omega)) (by omega) (by omega) h0 h1, below_yes (wf_of (by omega) (by omega)) (by omega) (by omega) h2 h3, uwrap_in h0 (by omega), uwrap_in h2 (by omega), uwrap_in (by omega) (by omega), or8 h0 (by omega) h2 h3, wrap_in (by omega) (by omega)]
  simp
theorem page_out {a b : Int} (ha : (Lit.int .i64 a).wf = true) (hb : (Lit.int .i64 b).wf = true) (h : a < 0 ∨ 8 ≤ a ∨ b < 0 ∨ 8 ≤ b) : addr_Page.f a b = some (0, 2) := by
  unfold addr_Page.f
  by_cases h0 : a < 0 ∨ 8 ≤ a
  · rw [below_no ha (by omega) (by omega) h0]; simp
  · rw [below_yes ha (by omega) (by omega) (by omega) (by omega), below_no hb (by omega) (by omega) (by omega)]; simp
theorem address_out {a b : Int} (ha : (Lit.int .i64 a).wf = true) (hb : (Lit.int .i64 b).wf = true) (h : a < 0 ∨ 64 ≤ a ∨ b < 0 ∨ 8 ≤ b) : addr_Address.f a b = some (0, 2) := by
  unfold addr_Address.f
  by_cases h0 : a < 0 ∨ 64 ≤ a
  · rw [below_no ha (by omega) (by omega) h0]; simp
  · rw [below_yes ha (by omega) (by omega) (by omega) (by omega), below_no hb (by omega) (by omega) (by omega)]; simp
theorem mod_in {a b : Int} (hb : 1 ≤ b) (hb1 : b ≤ 1000000) : headgatekit_Mod.f a b = some (a % b) := by
  unfold headgatekit_Mod.f
  rw [if_neg (by omega), if_neg (by omega)]
  have h1 : Int.tmod a b = if 0 ≤ a ∨ b ∣ a then a % b else a % b - b := by
    rw [Int.tmod_eq_emod]
    split <;> simp <;> omega
  have h2 := Int.emod_nonneg a (show b ≠ 0 by omega)
  have h3 := Int.emod_lt_of_pos a (show 0 < b by omega)
  split
  · rename_i h
    rw [h1] at h ⊢
    split at h
    · omega
    · rename_i h4
      rw [if_neg h4, wrap_in (by omega) (by omega)]
      congr 1; omega
  · rename_i h
    rw [h1] at h ⊢
    split at h
    · rename_i h4; rw [if_pos h4]
    · omega
theorem awake : headgatelaw03_awake.f 10 = some true := by decide +kernel
theorem awake_ge {k : Nat} (h : 10 ≤ k) : headgatelaw03_awake.f k = some true := by
  obtain ⟨j, rfl⟩ := Nat.exists_eq_add_of_le h
  induction j with
  | zero => exact awake
  | succ j ih => exact headgatelaw03_awake.mono _ _ (ih (by omega))
end Go.Proofs.Ytmefcnfmbaajcaa.U
