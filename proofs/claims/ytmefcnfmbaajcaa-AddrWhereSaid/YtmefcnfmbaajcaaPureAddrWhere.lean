/- The pure statement of AddrWhere: the program and the reference say the same of where pages and addresses are. Condition: the two numbers are of type int. -/
import Derived.Test.YtmefcnfmbaajcaaPAllx5
import Derived.Test.YtmefcnfmbaajcaaU
namespace Go.Proofs.Ytmefcnfmbaajcaa.Pure
open Go.RowKit Go.Proofs.Ytmefcnfmbaajcaa.PAll Go.Proofs.YtmefcnfmbaajcaaW.PrintWords Go.Proofs.YtmefcnfmbaajcaaW.PrintLast Go.Proofs.Ytmefcnfmbaajcaa.U

theorem leaf_ref {n : Int} (hn : (Lit.int .i64 n).wf = true) : addr_Leaf.f n = headgateref03_Leaf.f n := by
  unfold headgateref03_Leaf.f
  by_cases h0 : n < 0
  · rw [leaf_out hn (.inl h0), if_pos h0]
  · by_cases h1 : n ≥ 64
    · rw [leaf_out hn (.inr h1), if_neg h0, if_pos h1]
    · rw [leaf_in hn (by omega) (by omega), if_neg h0, if_neg h1, Int.tdiv_eq_ediv_of_nonneg (by omega), Int.tmod_eq_emod_of_nonneg (by omega), wrap_in (by omega) (by omega)]
theorem where_ref {n : Int} (hn : (Lit.int .i64 n).wf = true) : addr_Where.f n = headgateref03_Where.f n := by
  unfold headgateref03_Where.f
  by_cases h0 : n < 0
  · rw [where_out hn (.inl h0), if_pos h0]
  · by_cases h1 : n ≥ 512
    · rw [where_out hn (.inr h1), if_neg h0, if_pos h1]
    · rw [where_in hn (by omega) (by omega), if_neg h0, if_neg h1, Int.tdiv_eq_ediv_of_nonneg (by omega), Int.tmod_eq_emod_of_nonneg (by omega), wrap_in (by omega) (by omega)]
theorem page_ref {a b : Int} (ha : (Lit.int .i64 a).wf = true) (hb : (Lit.int .i64 b).wf = true) : addr_Page.f a b = headgateref03_Page.f a b := by
  unfold headgateref03_Page.f
  by_cases h0 : a < 0
  · rw [page_out ha hb (.inl h0), if_pos h0]
  · rw [if_neg h0]
    by_cases h1 : a ≥ 8
    · rw [page_out ha hb (by omega), if_pos h1]
    · rw [if_neg h1]
      by_cases h2 : b < 0
      · rw [page_out ha hb (by omega), if_pos h2]
      · rw [if_neg h2]
        by_cases h3 : b ≥ 8
        · rw [page_out ha hb (by omega), if_pos h3]
        · rw [if_neg h3, page_in (by omega) (by omega) (by omega) (by omega), show wrap64 (a * 8) = a * 8 from wrap_in (by omega) (by omega), wrap_in (by omega) (by omega)]
theorem address_ref {a b : Int} (ha : (Lit.int .i64 a).wf = true) (hb : (Lit.int .i64 b).wf = true) : addr_Address.f a b = headgateref03_Address.f a b := by
  unfold headgateref03_Address.f
  by_cases h0 : a < 0
  · rw [address_out ha hb (.inl h0), if_pos h0]
  · rw [if_neg h0]
    by_cases h1 : a ≥ 64
    · rw [address_out ha hb (by omega), if_pos h1]
    · rw [if_neg h1]
      by_cases h2 : b < 0
      · rw [address_out ha hb (by omega), if_pos h2]
      · rw [if_neg h2]
        by_cases h3 : b ≥ 8
        · rw [address_out ha hb (by omega), if_pos h3]
        · rw [if_neg h3, address_in (by omega) (by omega) (by omega) (by omega), show wrap64 (a * 8) = a * 8 from wrap_in (by omega) (by omega), wrap_in (by omega) (by omega)]
theorem some_leaf {n : Int} (hn : (Lit.int .i64 n).wf = true) : ∃ r, addr_Leaf.f n = some r := by
  by_cases h : n < 0 ∨ 64 ≤ n
  · exact ⟨_, leaf_out hn h⟩
  · exact ⟨_, leaf_in hn (by omega) (by omega)⟩
theorem some_where {n : Int} (hn : (Lit.int .i64 n).wf = true) : ∃ r, addr_Where.f n = some r := by
  by_cases h : n < 0 ∨ 512 ≤ n
  · exact ⟨_, where_out hn h⟩
  · exact ⟨_, where_in hn (by omega) (by omega)⟩
theorem some_page {a b : Int} (ha : (Lit.int .i64 a).wf = true) (hb : (Lit.int .i64 b).wf = true) : ∃ r, addr_Page.f a b = some r := by
  by_cases h : a < 0 ∨ 8 ≤ a ∨ b < 0 ∨ 8 ≤ b
  · exact ⟨_, page_out ha hb h⟩
  · exact ⟨_, page_in (by omega) (by omega) (by omega) (by omega)⟩
theorem some_address {a b : Int} (ha : (Lit.int .i64 a).wf = true) (hb : (Lit.int .i64 b).wf = true) : ∃ r, addr_Address.f a b = some r := by
  by_cases h : a < 0 ∨ 64 ≤ a ∨ b < 0 ∨ 8 ≤ b
  · exact ⟨_, address_out ha hb h⟩
  · exact ⟨_, address_in (by omega) (by omega) (by omega) (by omega)⟩

theorem AddrWhere : headgatelaw03_AddrWhere.Pure := by
  intro n m hn hm
  refine ⟨12, ?_⟩
  obtain ⟨r1, e1⟩ := some_leaf hn
  obtain ⟨r2, e2⟩ := some_where hn
  obtain ⟨r3, e3⟩ := some_page hn hm
  obtain ⟨r4, e4⟩ := some_address hn hm
  unfold headgatelaw03_AddrWhere.f
  rw [← leaf_ref hn, e1]
  simp only [Option.bind_some, if_true, bne_self_eq_false]
  simp only [headgatelaw03_AddrWhere.j0, Bool.false_eq_true, if_false]
  rw [← where_ref hn, e2]
  simp only [Option.bind_some, if_true, bne_self_eq_false]
  simp only [headgatelaw03_AddrWhere.j1, Bool.false_eq_true, if_false]
  rw [← page_ref hn hm, ← address_ref hn hm, e3, e4]
  simp only [Option.bind_some, if_true]
  rw [awake_ge (by omega)]
  simp

end Go.Proofs.Ytmefcnfmbaajcaa.Pure
