/- Of the seat Ytmefcnfmbaajcaa: Lean functions that say what Go functions compute, and proofs that the Go code comes to these answers. Written by a program of this session (it runs the kit's printer, with hand proofs for what that refuses). Conditions: those of each theorem. -/
import Derived.Test.YtmefcnfmbaajcaaPBox0
import Derived.Test.YtmefcnfmbaajcaaPBox1
import Derived.Test.YtmefcnfmbaajcaaPBox2
import Derived.Test.YtmefcnfmbaajcaaPBox4
namespace Go.Proofs.Ytmefcnfmbaajcaa.PBo
open Go.RowKit Go.Proofs.YtmefcnfmbaajcaaW.PrintWords Go.Proofs.YtmefcnfmbaajcaaW.PrintLast Go.Proofs.YtmefcnfmbaajcaaW.PrintMore
attribute [local go_sem] max2_int min2_int max_two min_two max_three min_three max_four min_four   -- for this text's walks alone
set_option linter.unusedVariables false
set_option linter.unusedSimpArgs false

attribute [local go_sem high] eqA23
/-! ### headgatelaw03_AddrBoth: function 3 -/
def headgatelaw03_AddrBoth.f (k : Nat) (a0 : Int) (a1 : Int) (a2 : Int) : Option (Bool) := (headgatelaw03_made.f a0).bind fun bt128 => ((headgatelaw03_made.f a1).bind fun bt130 => ((headgatekit_Mod.f a2 64).bind fun t132 => ((addr_Overlap.f k bt128.1 bt128.2 bt130.1 bt130.2).bind fun bt135 => ((addr_Overlap.f k bt130.1 bt130.2 bt128.1 bt128.2).bind fun bt140 => (if bt135.2.2.2 = 0 then (if bt140.2.2.2 = 0 then (if (!(bt135.1 == bt140.1) || (!(bt135.2.1 == bt140.2.1))) = true then (some false) else (if (bt135.2.2.1 != bt140.2.2.1) = true then (some false) else (if bt128.1 ≤ t132 then (if t132 ≤ bt128.2 then (if bt130.1 ≤ t132 then (if bt135.2.2.1 = true then (if bt135.1 ≤ t132 then (if ((decide (t132 ≤ bt135.2.1)) == (decide (t132 ≤ bt130.2))) = true then ((headgatelaw03_awake.f k).bind fun t145 => (some t145)) else (some false)) else (if (false == (decide (t132 ≤ bt130.2))) = true then ((headgatelaw03_awake.f k).bind fun t146 => (some t146)) else (some false))) else (if (false == (decide (t132 ≤ bt130.2))) = true then ((headgatelaw03_awake.f k).bind fun t147 => (some t147)) else (some false))) else (if bt135.2.2.1 = true then (if bt135.1 ≤ t132 then (if ((decide (t132 ≤ bt135.2.1)) == false) = true then ((headgatelaw03_awake.f k).bind fun t148 => (some t148)) else (some false)) else (if (false == false) = true then ((headgatelaw03_awake.f k).bind fun t149 => (some t149)) else (some false))) else (if (false == false) = true then ((headgatelaw03_awake.f k).bind fun t150 => (some t150)) else (some false)))) else (if bt135.2.2.1 = true then (if bt135.1 ≤ t132 then (if ((decide (t132 ≤ bt135.2.1)) == false) = true then ((headgatelaw03_awake.f k).bind fun t151 => (some t151)) else (some false)) else (if (false == false) = true then ((headgatelaw03_awake.f k).bind fun t152 => (some t152)) else (some false))) else (if (false == false) = true then ((headgatelaw03_awake.f k).bind fun t153 => (some t153)) else (some false)))) else (if bt135.2.2.1 = true then (if bt135.1 ≤ t132 then (if ((decide (t132 ≤ bt135.2.1)) == false) = true then ((headgatelaw03_awake.f k).bind fun t154 => (some t154)) else (some false)) else (if (false == false) = true then ((headgatelaw03_awake.f k).bind fun t155 => (some t155)) else (some false))) else (if (false == false) = true then ((headgatelaw03_awake.f k).bind fun t156 => (some t156)) else (some false)))))) else (some false)) else (some false))))))
theorem headgatelaw03_AddrBoth.mono : ∀ a0 a1 a2 k, LeO (headgatelaw03_AddrBoth.f k a0 a1 a2) (headgatelaw03_AddrBoth.f (k + 1) a0 a1 a2) := by
 intro a0 a1 a2 k
 unfold headgatelaw03_AddrBoth.f
 repeat' first
   | (with_reducible exact addr_Overlap.mono _ _ _ _ _)
   | (with_reducible exact headgatelaw03_awake.mono _)
   | (with_reducible exact LeO.refl _)
   | (with_reducible exact LeO.none _)
   | (with_reducible refine LeO.ite ?_ ?_)
   | (with_reducible refine LeO.bind ?_ (fun _ => ?_))
   | exact addr_Overlap.mono _ _ _ _ _
   | exact headgatelaw03_awake.mono _
   | exact LeO.none _
   | refine LeO.ite ?_ ?_
   | refine LeO.bind ?_ (fun _ => ?_)
set_option maxHeartbeats 8000000 in
set_option maxRecDepth 100000 in
theorem headgatelaw03_AddrBoth.calls (k : Nat) (a0 : Int) (a1 : Int) (a2 : Int) (r : Bool) (w : World) (h : headgatelaw03_AddrBoth.f k a0 a1 a2 = some r) :
  Calls Try.prog 3 #[.int .i64 a0, .int .i64 a1, .int .i64 a2] w fun e w' => e = .returned (.bool r) ∧ Below w.heap.size w w' := by
 have hu23 := Try.underlying23
 have HB := Aside0.mk (Below.refl w.heap.size w)
 have H : ((headgatelaw03_made.f a0).bind fun bt128 => ((headgatelaw03_made.f a1).bind fun bt130 => ((headgatekit_Mod.f a2 64).bind fun t132 => ((addr_Overlap.f k bt128.1 bt128.2 bt130.1 bt130.2).bind fun bt135 => ((addr_Overlap.f k bt130.1 bt130.2 bt128.1 bt128.2).bind fun bt140 => (if bt135.2.2.2 = 0 then (if bt140.2.2.2 = 0 then (if (!(bt135.1 == bt140.1) || (!(bt135.2.1 == bt140.2.1))) = true then (some false) else (if (bt135.2.2.1 != bt140.2.2.1) = true then (some false) else (if bt128.1 ≤ t132 then (if t132 ≤ bt128.2 then (if bt130.1 ≤ t132 then (if bt135.2.2.1 = true then (if bt135.1 ≤ t132 then (if ((decide (t132 ≤ bt135.2.1)) == (decide (t132 ≤ bt130.2))) = true then ((headgatelaw03_awake.f k).bind fun t145 => (some t145)) else (some false)) else (if (false == (decide (t132 ≤ bt130.2))) = true then ((headgatelaw03_awake.f k).bind fun t146 => (some t146)) else (some false))) else (if (false == (decide (t132 ≤ bt130.2))) = true then ((headgatelaw03_awake.f k).bind fun t147 => (some t147)) else (some false))) else (if bt135.2.2.1 = true then (if bt135.1 ≤ t132 then (if ((decide (t132 ≤ bt135.2.1)) == false) = true then ((headgatelaw03_awake.f k).bind fun t148 => (some t148)) else (some false)) else (if (false == false) = true then ((headgatelaw03_awake.f k).bind fun t149 => (some t149)) else (some false))) else (if (false == false) = true then ((headgatelaw03_awake.f k).bind fun t150 => (some t150)) else (some false)))) else (if bt135.2.2.1 = true then (if bt135.1 ≤ t132 then (if ((decide (t132 ≤ bt135.2.1)) == false) = true then ((headgatelaw03_awake.f k).bind fun t151 => (some t151)) else (some false)) else (if (false == false) = true then ((headgatelaw03_awake.f k).bind fun t152 => (some t152)) else (some false))) else (if (false == false) = true then ((headgatelaw03_awake.f k).bind fun t153 => (some t153)) else (some false)))) else (if bt135.2.2.1 = true then (if bt135.1 ≤ t132 then (if ((decide (t132 ≤ bt135.2.1)) == false) = true then ((headgatelaw03_awake.f k).bind fun t154 => (some t154)) else (some false)) else (if (false == false) = true then ((headgatelaw03_awake.f k).bind fun t155 => (some t155)) else (some false))) else (if (false == false) = true then ((headgatelaw03_awake.f k).bind fun t156 => (some t156)) else (some false)))))) else (some false)) else (some false))))))) = some r := h
 clear h
 replace H := Option.bind_eq_some_iff.mp H
 obtain ⟨⟨t128, t129⟩, A40, H⟩ := H
 replace H : ((headgatelaw03_made.f a1).bind fun bt130 => ((headgatekit_Mod.f a2 64).bind fun t132 => ((addr_Overlap.f k t128 t129 bt130.1 bt130.2).bind fun bt135 => ((addr_Overlap.f k bt130.1 bt130.2 t128 t129).bind fun bt140 => (if bt135.2.2.2 = 0 then (if bt140.2.2.2 = 0 then (if (!(bt135.1 == bt140.1) || (!(bt135.2.1 == bt140.2.1))) = true then (some false) else (if (bt135.2.2.1 != bt140.2.2.1) = true then (some false) else (if t128 ≤ t132 then (if t132 ≤ t129 then (if bt130.1 ≤ t132 then (if bt135.2.2.1 = true then (if bt135.1 ≤ t132 then (if ((decide (t132 ≤ bt135.2.1)) == (decide (t132 ≤ bt130.2))) = true then ((headgatelaw03_awake.f k).bind fun t145 => (some t145)) else (some false)) else (if (false == (decide (t132 ≤ bt130.2))) = true then ((headgatelaw03_awake.f k).bind fun t146 => (some t146)) else (some false))) else (if (false == (decide (t132 ≤ bt130.2))) = true then ((headgatelaw03_awake.f k).bind fun t147 => (some t147)) else (some false))) else (if bt135.2.2.1 = true then (if bt135.1 ≤ t132 then (if ((decide (t132 ≤ bt135.2.1)) == false) = true then ((headgatelaw03_awake.f k).bind fun t148 => (some t148)) else (some false)) else (if (false == false) = true then ((headgatelaw03_awake.f k).bind fun t149 => (some t149)) else (some false))) else (if (false == false) = true then ((headgatelaw03_awake.f k).bind fun t150 => (some t150)) else (some false)))) else (if bt135.2.2.1 = true then (if bt135.1 ≤ t132 then (if ((decide (t132 ≤ bt135.2.1)) == false) = true then ((headgatelaw03_awake.f k).bind fun t151 => (some t151)) else (some false)) else (if (false == false) = true then ((headgatelaw03_awake.f k).bind fun t152 => (some t152)) else (some false))) else (if (false == false) = true then ((headgatelaw03_awake.f k).bind fun t153 => (some t153)) else (some false)))) else (if bt135.2.2.1 = true then (if bt135.1 ≤ t132 then (if ((decide (t132 ≤ bt135.2.1)) == false) = true then ((headgatelaw03_awake.f k).bind fun t154 => (some t154)) else (some false)) else (if (false == false) = true then ((headgatelaw03_awake.f k).bind fun t155 => (some t155)) else (some false))) else (if (false == false) = true then ((headgatelaw03_awake.f k).bind fun t156 => (some t156)) else (some false)))))) else (some false)) else (some false)))))) = some r := H
 have A4 := Aside0.mk A40
 clear A40
 replace H := Option.bind_eq_some_iff.mp H
 obtain ⟨⟨t130, t131⟩, A50, H⟩ := H
 replace H : ((headgatekit_Mod.f a2 64).bind fun t132 => ((addr_Overlap.f k t128 t129 t130 t131).bind fun bt135 => ((addr_Overlap.f k t130 t131 t128 t129).bind fun bt140 => (if bt135.2.2.2 = 0 then (if bt140.2.2.2 = 0 then (if (!(bt135.1 == bt140.1) || (!(bt135.2.1 == bt140.2.1))) = true then (some false) else (if (bt135.2.2.1 != bt140.2.2.1) = true then (some false) else (if t128 ≤ t132 then (if t132 ≤ t129 then (if t130 ≤ t132 then (if bt135.2.2.1 = true then (if bt135.1 ≤ t132 then (if ((decide (t132 ≤ bt135.2.1)) == (decide (t132 ≤ t131))) = true then ((headgatelaw03_awake.f k).bind fun t145 => (some t145)) else (some false)) else (if (false == (decide (t132 ≤ t131))) = true then ((headgatelaw03_awake.f k).bind fun t146 => (some t146)) else (some false))) else (if (false == (decide (t132 ≤ t131))) = true then ((headgatelaw03_awake.f k).bind fun t147 => (some t147)) else (some false))) else (if bt135.2.2.1 = true then (if bt135.1 ≤ t132 then (if ((decide (t132 ≤ bt135.2.1)) == false) = true then ((headgatelaw03_awake.f k).bind fun t148 => (some t148)) else (some false)) else (if (false == false) = true then ((headgatelaw03_awake.f k).bind fun t149 => (some t149)) else (some false))) else (if (false == false) = true then ((headgatelaw03_awake.f k).bind fun t150 => (some t150)) else (some false)))) else (if bt135.2.2.1 = true then (if bt135.1 ≤ t132 then (if ((decide (t132 ≤ bt135.2.1)) == false) = true then ((headgatelaw03_awake.f k).bind fun t151 => (some t151)) else (some false)) else (if (false == false) = true then ((headgatelaw03_awake.f k).bind fun t152 => (some t152)) else (some false))) else (if (false == false) = true then ((headgatelaw03_awake.f k).bind fun t153 => (some t153)) else (some false)))) else (if bt135.2.2.1 = true then (if bt135.1 ≤ t132 then (if ((decide (t132 ≤ bt135.2.1)) == false) = true then ((headgatelaw03_awake.f k).bind fun t154 => (some t154)) else (some false)) else (if (false == false) = true then ((headgatelaw03_awake.f k).bind fun t155 => (some t155)) else (some false))) else (if (false == false) = true then ((headgatelaw03_awake.f k).bind fun t156 => (some t156)) else (some false)))))) else (some false)) else (some false))))) = some r := H
 have A5 := Aside0.mk A50
 clear A50
 replace H := Option.bind_eq_some_iff.mp H
 obtain ⟨t132, A60, H⟩ := H
 replace H : ((addr_Overlap.f k t128 t129 t130 t131).bind fun bt135 => ((addr_Overlap.f k t130 t131 t128 t129).bind fun bt140 => (if bt135.2.2.2 = 0 then (if bt140.2.2.2 = 0 then (if (!(bt135.1 == bt140.1) || (!(bt135.2.1 == bt140.2.1))) = true then (some false) else (if (bt135.2.2.1 != bt140.2.2.1) = true then (some false) else (if t128 ≤ t132 then (if t132 ≤ t129 then (if t130 ≤ t132 then (if bt135.2.2.1 = true then (if bt135.1 ≤ t132 then (if ((decide (t132 ≤ bt135.2.1)) == (decide (t132 ≤ t131))) = true then ((headgatelaw03_awake.f k).bind fun t145 => (some t145)) else (some false)) else (if (false == (decide (t132 ≤ t131))) = true then ((headgatelaw03_awake.f k).bind fun t146 => (some t146)) else (some false))) else (if (false == (decide (t132 ≤ t131))) = true then ((headgatelaw03_awake.f k).bind fun t147 => (some t147)) else (some false))) else (if bt135.2.2.1 = true then (if bt135.1 ≤ t132 then (if ((decide (t132 ≤ bt135.2.1)) == false) = true then ((headgatelaw03_awake.f k).bind fun t148 => (some t148)) else (some false)) else (if (false == false) = true then ((headgatelaw03_awake.f k).bind fun t149 => (some t149)) else (some false))) else (if (false == false) = true then ((headgatelaw03_awake.f k).bind fun t150 => (some t150)) else (some false)))) else (if bt135.2.2.1 = true then (if bt135.1 ≤ t132 then (if ((decide (t132 ≤ bt135.2.1)) == false) = true then ((headgatelaw03_awake.f k).bind fun t151 => (some t151)) else (some false)) else (if (false == false) = true then ((headgatelaw03_awake.f k).bind fun t152 => (some t152)) else (some false))) else (if (false == false) = true then ((headgatelaw03_awake.f k).bind fun t153 => (some t153)) else (some false)))) else (if bt135.2.2.1 = true then (if bt135.1 ≤ t132 then (if ((decide (t132 ≤ bt135.2.1)) == false) = true then ((headgatelaw03_awake.f k).bind fun t154 => (some t154)) else (some false)) else (if (false == false) = true then ((headgatelaw03_awake.f k).bind fun t155 => (some t155)) else (some false))) else (if (false == false) = true then ((headgatelaw03_awake.f k).bind fun t156 => (some t156)) else (some false)))))) else (some false)) else (some false)))) = some r := H
 have A6 := Aside0.mk A60
 clear A60
 replace H := Option.bind_eq_some_iff.mp H
 obtain ⟨⟨t135, t136, t137, t138⟩, A70, H⟩ := H
 replace H : ((addr_Overlap.f k t130 t131 t128 t129).bind fun bt140 => (if t138 = 0 then (if bt140.2.2.2 = 0 then (if (!(t135 == bt140.1) || (!(t136 == bt140.2.1))) = true then (some false) else (if (t137 != bt140.2.2.1) = true then (some false) else (if t128 ≤ t132 then (if t132 ≤ t129 then (if t130 ≤ t132 then (if t137 = true then (if t135 ≤ t132 then (if ((decide (t132 ≤ t136)) == (decide (t132 ≤ t131))) = true then ((headgatelaw03_awake.f k).bind fun t145 => (some t145)) else (some false)) else (if (false == (decide (t132 ≤ t131))) = true then ((headgatelaw03_awake.f k).bind fun t146 => (some t146)) else (some false))) else (if (false == (decide (t132 ≤ t131))) = true then ((headgatelaw03_awake.f k).bind fun t147 => (some t147)) else (some false))) else (if t137 = true then (if t135 ≤ t132 then (if ((decide (t132 ≤ t136)) == false) = true then ((headgatelaw03_awake.f k).bind fun t148 => (some t148)) else (some false)) else (if (false == false) = true then ((headgatelaw03_awake.f k).bind fun t149 => (some t149)) else (some false))) else (if (false == false) = true then ((headgatelaw03_awake.f k).bind fun t150 => (some t150)) else (some false)))) else (if t137 = true then (if t135 ≤ t132 then (if ((decide (t132 ≤ t136)) == false) = true then ((headgatelaw03_awake.f k).bind fun t151 => (some t151)) else (some false)) else (if (false == false) = true then ((headgatelaw03_awake.f k).bind fun t152 => (some t152)) else (some false))) else (if (false == false) = true then ((headgatelaw03_awake.f k).bind fun t153 => (some t153)) else (some false)))) else (if t137 = true then (if t135 ≤ t132 then (if ((decide (t132 ≤ t136)) == false) = true then ((headgatelaw03_awake.f k).bind fun t154 => (some t154)) else (some false)) else (if (false == false) = true then ((headgatelaw03_awake.f k).bind fun t155 => (some t155)) else (some false))) else (if (false == false) = true then ((headgatelaw03_awake.f k).bind fun t156 => (some t156)) else (some false)))))) else (some false)) else (some false))) = some r := H
 have A7 := Aside0.mk A70
 clear A70
 replace H := Option.bind_eq_some_iff.mp H
 obtain ⟨⟨t140, t141, t142, t143⟩, A80, H⟩ := H
 replace H : (if t138 = 0 then (if t143 = 0 then (if (!(t135 == t140) || (!(t136 == t141))) = true then (some false) else (if (t137 != t142) = true then (some false) else (if t128 ≤ t132 then (if t132 ≤ t129 then (if t130 ≤ t132 then (if t137 = true then (if t135 ≤ t132 then (if ((decide (t132 ≤ t136)) == (decide (t132 ≤ t131))) = true then ((headgatelaw03_awake.f k).bind fun t145 => (some t145)) else (some false)) else (if (false == (decide (t132 ≤ t131))) = true then ((headgatelaw03_awake.f k).bind fun t146 => (some t146)) else (some false))) else (if (false == (decide (t132 ≤ t131))) = true then ((headgatelaw03_awake.f k).bind fun t147 => (some t147)) else (some false))) else (if t137 = true then (if t135 ≤ t132 then (if ((decide (t132 ≤ t136)) == false) = true then ((headgatelaw03_awake.f k).bind fun t148 => (some t148)) else (some false)) else (if (false == false) = true then ((headgatelaw03_awake.f k).bind fun t149 => (some t149)) else (some false))) else (if (false == false) = true then ((headgatelaw03_awake.f k).bind fun t150 => (some t150)) else (some false)))) else (if t137 = true then (if t135 ≤ t132 then (if ((decide (t132 ≤ t136)) == false) = true then ((headgatelaw03_awake.f k).bind fun t151 => (some t151)) else (some false)) else (if (false == false) = true then ((headgatelaw03_awake.f k).bind fun t152 => (some t152)) else (some false))) else (if (false == false) = true then ((headgatelaw03_awake.f k).bind fun t153 => (some t153)) else (some false)))) else (if t137 = true then (if t135 ≤ t132 then (if ((decide (t132 ≤ t136)) == false) = true then ((headgatelaw03_awake.f k).bind fun t154 => (some t154)) else (some false)) else (if (false == false) = true then ((headgatelaw03_awake.f k).bind fun t155 => (some t155)) else (some false))) else (if (false == false) = true then ((headgatelaw03_awake.f k).bind fun t156 => (some t156)) else (some false)))))) else (some false)) else (some false)) = some r := H
 have A8 := Aside0.mk A80
 clear A80
 have HQ9 := Aside0.mk H
 clear H
 go_enter Try.func3, Try.ntmps3
 go_upto_region 4 with (first | ((with_reducible refine gate_callee (f := 8) rfl ?_); refine goesL_ (some 18) rfl rfl Try.func8 (by as_aux_lemma => kernel_rfl) rfl #[.int .i64 a0] rfl (by (try simp only [List.map_toArray, List.map_cons, List.map_nil]); first | done | rfl | (simp only [List.length_drop, List.length_take]; rfl)) ?_; (with_reducible refine (headgatelaw03_made.calls a0 t128 t129 _ A4.out).mono ?_); rintro e w10 ⟨rfl, hb⟩; refine ⟨_, rfl, ?_⟩; have n0_ := Aside0.mk (below_step (by repeat (first | (with_reducible first | exact HB.out | apply below_alloc | apply pw_below_drewN | apply below_drew1) | exact HB.out)) hb); clear HB; have HB := n0_; clear n0_; (try clear hb); (try clear hb2); (try clear hk); (try clear hi)) | ((with_reducible refine gate_callee (f := 8) rfl ?_); refine goesL_ (some 20) rfl rfl Try.func8 (by as_aux_lemma => kernel_rfl) rfl #[.int .i64 a1] rfl (by (try simp only [List.map_toArray, List.map_cons, List.map_nil]); first | done | rfl | (simp only [List.length_drop, List.length_take]; rfl)) ?_; (with_reducible refine (headgatelaw03_made.calls a1 t130 t131 _ A5.out).mono ?_); rintro e w11 ⟨rfl, hb⟩; refine ⟨_, rfl, ?_⟩; have n0_ := Aside0.mk (below_step (by repeat (first | (with_reducible first | exact HB.out | apply below_alloc | apply pw_below_drewN | apply below_drew1) | exact HB.out)) hb); clear HB; have HB := n0_; clear n0_; (try clear hb); (try clear hb2); (try clear hk); (try clear hi)) | ((with_reducible refine gate_callee (f := 9) rfl ?_); refine goesL_ (some 22) rfl rfl Try.func9 (by as_aux_lemma => kernel_rfl) rfl #[.int .i64 a2, .int .i64 64] rfl (by (try simp only [List.map_toArray, List.map_cons, List.map_nil]); first | done | rfl | (simp only [List.length_drop, List.length_take]; rfl)) ?_; (with_reducible refine (headgatekit_Mod.calls a2 64 t132 _ A6.out).mono ?_); rintro e w' ⟨rfl, ⟨nd, rfl⟩⟩; refine ⟨_, rfl, ?_⟩; (try (rw [drewN_self w11]; generalize hq_ : World.drewN w11 _ = w11; have n0_ : Aside0 (Below w.heap.size w w11) := ⟨by rw [← hq_]; exact (by repeat (first | (with_reducible first | exact HB.out | apply below_alloc | apply pw_below_drewN | apply below_drew1) | exact HB.out))⟩; clear HB hq_; have HB := n0_; clear n0_))) | ((with_reducible refine gate_dst (N := 7) rfl ?_); refine box_event ?hg (N := 7) ?hd (cs := #[.int .i64 0, .int .i64 0]) (t := 23) ?hr ?_; (case hd => rfl); (case hg => rfl); (case hr => first | (go_simp; done) | (go_simp; rfl)); intro gb133 hg w12 hbox hb; have n0_ := Aside0.mk (below_step (by repeat (first | (with_reducible first | exact HB.out | apply below_alloc | apply pw_below_drewN | apply below_drew1) | exact HB.out)) hb); have n1_ := Aside0.mk (hbox); have n2_ := Aside0.mk ((by rw [hg]; exact (below_size (by repeat (first | (with_reducible first | exact HB.out | apply below_alloc | apply pw_below_drewN | apply below_drew1) | exact HB.out))) : w.heap.size ≤ gb133)); have n3_ := Aside0.mk ((by rw [hg]; exact (below_size (by repeat (first | (with_reducible first | exact HB.out | apply below_alloc | apply pw_below_drewN | apply below_drew1) | exact HB.out))) : w.heap.size ≤ gb133)); clear HB; have HB := n0_; have BK133 := n1_; have GW133 := n2_; have GE133 := n3_; clear n0_ n1_ n2_ n3_; clear hb hbox hg) | ((with_reducible refine gate_dst (N := 8) rfl ?_); refine box_event ?hg (N := 8) ?hd (cs := #[.int .i64 0, .int .i64 0]) (t := 23) ?hr ?_; (case hd => rfl); (case hg => rfl); (case hr => first | (go_simp; done) | (go_simp; rfl)); intro gb134 hg w13 hbox hb; have n0_ := Aside0.mk (blk_below (g := gb133) (o := .cells #[.int .i64 0, .int .i64 0] 23 (0, 0)) (by (with_reducible repeat (first | refine blk_drewN ?_ _ | refine blk_drew ?_ | refine blk_alloc ?_ _)); exact BK133.out) hb); have n1_ := Aside0.mk (below_step (by repeat (first | (with_reducible first | exact HB.out | apply below_alloc | apply pw_below_drewN | apply below_drew1 | refine below_set ?_ GE133.out) | exact HB.out)) hb); have n2_ := Aside0.mk (hbox); have n3_ := Aside0.mk ((by rw [hg]; exact (below_size (by repeat (first | (with_reducible first | exact HB.out | apply below_alloc | apply pw_below_drewN | apply below_drew1 | refine below_set ?_ GE133.out) | exact HB.out))) : w.heap.size ≤ gb134)); have n4_ := Aside0.mk ((by rw [hg]; exact (below_size (by repeat (first | (with_reducible first | exact HB.out | apply below_alloc | apply pw_below_drewN | apply below_drew1 | refine below_set ?_ GE133.out) | exact HB.out))) : w.heap.size ≤ gb134)); have n5_ := Aside0.mk ((by rw [hg]; exact Nat.ne_of_lt (blk_lt (g := gb133) (o := .cells #[.int .i64 0, .int .i64 0] 23 (0, 0)) (by (with_reducible repeat (first | refine blk_drewN ?_ _ | refine blk_drew ?_ | refine blk_alloc ?_ _)); exact BK133.out)) : gb133 ≠ gb134)); have n6_ := Aside0.mk ((by rw [hg]; exact Nat.ne_of_gt (blk_lt (g := gb133) (o := .cells #[.int .i64 0, .int .i64 0] 23 (0, 0)) (by (with_reducible repeat (first | refine blk_drewN ?_ _ | refine blk_drew ?_ | refine blk_alloc ?_ _)); exact BK133.out)) : gb134 ≠ gb133)); clear BK133; clear HB; have BK133 := n0_; have HB := n1_; have BK134 := n2_; have GW134 := n3_; have GE134 := n4_; have NB133_134 := n5_; have NB134_133 := n6_; clear n0_ n1_ n2_ n3_ n4_ n5_ n6_; clear hb hbox hg; have hnb14 := NB133_134.out; have hnc14 := NB134_133.out; have hcz15_0 : w13.cell? ⟨gb133, 0, none⟩ = some (.int .i64 0) := (blk_cell BK133.out 0).trans rfl; have hcz15_1 : w13.cell? ⟨gb133, 1, none⟩ = some (.int .i64 0) := (blk_cell BK133.out 1).trans rfl; have hfz15_0 := blk_frozen BK133.out 0; have hfz15_1 := blk_frozen BK133.out 1; have hcz16_0 : w13.cell? ⟨gb134, 0, none⟩ = some (.int .i64 0) := (blk_cell BK134.out 0).trans rfl; have hcz16_1 : w13.cell? ⟨gb134, 1, none⟩ = some (.int .i64 0) := (blk_cell BK134.out 1).trans rfl; have hfz16_0 := blk_frozen BK134.out 0; have hfz16_1 := blk_frozen BK134.out 1) | ((with_reducible refine gate_callee (f := 10) rfl ?_); refine goesL_ (some 26) rfl rfl Try.func10 (by as_aux_lemma => kernel_rfl) rfl #[.agg #[.int .i64 t128, .int .i64 t129], .agg #[.int .i64 t130, .int .i64 t131]] rfl (by (try simp only [List.map_toArray, List.map_cons, List.map_nil]); first | done | rfl | (simp only [List.length_drop, List.length_take]; rfl)) ?_; (with_reducible refine (addr_Overlap.calls k t128 t129 t130 t131 t135 t136 t137 t138 _ A7.out).mono ?_); rintro e w17 ⟨rfl, hb⟩; refine ⟨_, rfl, ?_⟩; have n0_ := Aside0.mk (blk_below (g := gb133) (o := .cells #[.int .i64 t128, .int .i64 t129] 23 (0, 0)) (by (iterate 2 ((with_reducible repeat (first | refine blk_drewN ?_ _ | refine blk_drew ?_ | refine blk_alloc ?_ _)); refine blk_far ?_ NB133_134.out _)); (with_reducible repeat (first | refine blk_drewN ?_ _ | refine blk_drew ?_ | refine blk_alloc ?_ _)); refine blk_put (cs := #[.int .i64 t128, .int .i64 0]) ?_ 1 _ rfl; (with_reducible repeat (first | refine blk_drewN ?_ _ | refine blk_drew ?_ | refine blk_alloc ?_ _)); refine blk_put (cs := #[.int .i64 0, .int .i64 0]) ?_ 0 _ rfl; (with_reducible repeat (first | refine blk_drewN ?_ _ | refine blk_drew ?_ | refine blk_alloc ?_ _)); exact BK133.out) hb); have n1_ := Aside0.mk (blk_below (g := gb134) (o := .cells #[.int .i64 t130, .int .i64 t131] 23 (0, 0)) (by (with_reducible repeat (first | refine blk_drewN ?_ _ | refine blk_drew ?_ | refine blk_alloc ?_ _)); refine blk_put (cs := #[.int .i64 t130, .int .i64 0]) ?_ 1 _ rfl; (with_reducible repeat (first | refine blk_drewN ?_ _ | refine blk_drew ?_ | refine blk_alloc ?_ _)); refine blk_put (cs := #[.int .i64 0, .int .i64 0]) ?_ 0 _ rfl; (iterate 2 ((with_reducible repeat (first | refine blk_drewN ?_ _ | refine blk_drew ?_ | refine blk_alloc ?_ _)); refine blk_far ?_ NB134_133.out _)); (with_reducible repeat (first | refine blk_drewN ?_ _ | refine blk_drew ?_ | refine blk_alloc ?_ _)); exact BK134.out) hb); have n2_ := Aside0.mk (below_step (by repeat (first | (with_reducible first | exact HB.out | apply below_alloc | apply pw_below_drewN | apply below_drew1 | refine below_set ?_ GE133.out | refine below_set ?_ GE134.out) | exact HB.out)) hb); clear BK133; clear BK134; clear HB; have BK133 := n0_; have BK134 := n1_; have HB := n2_; clear n0_ n1_ n2_; (try clear hb); (try clear hb2); (try clear hk); (try clear hi)) | ((with_reducible refine gate_dst (N := 10) rfl ?_); refine box_event ?hg (N := 10) ?hd (cs := #[.int .i64 0, .int .i64 0]) (t := 23) ?hr ?_; (case hd => rfl); (case hg => rfl); (case hr => first | (go_simp; done) | (go_simp; rfl)); intro gb139 hg w18 hbox hb; have n0_ := Aside0.mk (blk_below (g := gb133) (o := .cells #[.int .i64 t128, .int .i64 t129] 23 (0, 0)) (by (with_reducible repeat (first | refine blk_drewN ?_ _ | refine blk_drew ?_ | refine blk_alloc ?_ _)); exact BK133.out) hb); have n1_ := Aside0.mk (blk_below (g := gb134) (o := .cells #[.int .i64 t130, .int .i64 t131] 23 (0, 0)) (by (with_reducible repeat (first | refine blk_drewN ?_ _ | refine blk_drew ?_ | refine blk_alloc ?_ _)); exact BK134.out) hb); have n2_ := Aside0.mk (below_step (by repeat (first | (with_reducible first | exact HB.out | apply below_alloc | apply pw_below_drewN | apply below_drew1 | refine below_set ?_ GE133.out | refine below_set ?_ GE134.out) | exact HB.out)) hb); have n3_ := Aside0.mk (hbox); have n4_ := Aside0.mk ((by rw [hg]; exact (below_size (by repeat (first | (with_reducible first | exact HB.out | apply below_alloc | apply pw_below_drewN | apply below_drew1 | refine below_set ?_ GE133.out | refine below_set ?_ GE134.out) | exact HB.out))) : w.heap.size ≤ gb139)); have n5_ := Aside0.mk ((by rw [hg]; exact (below_size (by repeat (first | (with_reducible first | exact HB.out | apply below_alloc | apply pw_below_drewN | apply below_drew1 | refine below_set ?_ GE133.out | refine below_set ?_ GE134.out) | exact HB.out))) : w.heap.size ≤ gb139)); have n6_ := Aside0.mk ((by rw [hg]; exact Nat.ne_of_lt (blk_lt (g := gb133) (o := .cells #[.int .i64 t128, .int .i64 t129] 23 (0, 0)) (by (with_reducible repeat (first | refine blk_drewN ?_ _ | refine blk_drew ?_ | refine blk_alloc ?_ _)); exact BK133.out)) : gb133 ≠ gb139)); have n7_ := Aside0.mk ((by rw [hg]; exact Nat.ne_of_gt (blk_lt (g := gb133) (o := .cells #[.int .i64 t128, .int .i64 t129] 23 (0, 0)) (by (with_reducible repeat (first | refine blk_drewN ?_ _ | refine blk_drew ?_ | refine blk_alloc ?_ _)); exact BK133.out)) : gb139 ≠ gb133)); have n8_ := Aside0.mk ((by rw [hg]; exact Nat.ne_of_lt (blk_lt (g := gb134) (o := .cells #[.int .i64 t130, .int .i64 t131] 23 (0, 0)) (by (with_reducible repeat (first | refine blk_drewN ?_ _ | refine blk_drew ?_ | refine blk_alloc ?_ _)); exact BK134.out)) : gb134 ≠ gb139)); have n9_ := Aside0.mk ((by rw [hg]; exact Nat.ne_of_gt (blk_lt (g := gb134) (o := .cells #[.int .i64 t130, .int .i64 t131] 23 (0, 0)) (by (with_reducible repeat (first | refine blk_drewN ?_ _ | refine blk_drew ?_ | refine blk_alloc ?_ _)); exact BK134.out)) : gb139 ≠ gb134)); clear BK133; clear BK134; clear HB; have BK133 := n0_; have BK134 := n1_; have HB := n2_; have BK139 := n3_; have GW139 := n4_; have GE139 := n5_; have NB133_139 := n6_; have NB139_133 := n7_; have NB134_139 := n8_; have NB139_134 := n9_; clear n0_ n1_ n2_ n3_ n4_ n5_ n6_ n7_ n8_ n9_; clear hb hbox hg; have hnb19 := NB139_133.out; have hnc19 := NB133_139.out; have hnb20 := NB139_134.out; have hnc20 := NB134_139.out; have hcz21_0 : w18.cell? ⟨gb139, 0, none⟩ = some (.int .i64 0) := (blk_cell BK139.out 0).trans rfl; have hcz21_1 : w18.cell? ⟨gb139, 1, none⟩ = some (.int .i64 0) := (blk_cell BK139.out 1).trans rfl; have hfz21_0 := blk_frozen BK139.out 0; have hfz21_1 := blk_frozen BK139.out 1; have hcz22_0 : w18.cell? ⟨gb134, 0, none⟩ = some (.int .i64 t130) := (blk_cell BK134.out 0).trans rfl; have hcz22_1 : w18.cell? ⟨gb134, 1, none⟩ = some (.int .i64 t131) := (blk_cell BK134.out 1).trans rfl; have hfz22_0 := blk_frozen BK134.out 0; have hfz22_1 := blk_frozen BK134.out 1; have hcz23_0 : w18.cell? ⟨gb133, 0, none⟩ = some (.int .i64 t128) := (blk_cell BK133.out 0).trans rfl; have hcz23_1 : w18.cell? ⟨gb133, 1, none⟩ = some (.int .i64 t129) := (blk_cell BK133.out 1).trans rfl; have hfz23_0 := blk_frozen BK133.out 0; have hfz23_1 := blk_frozen BK133.out 1) | ((with_reducible refine gate_callee (f := 10) rfl ?_); refine goesL_ (some 33) rfl rfl Try.func10 (by as_aux_lemma => kernel_rfl) rfl #[.agg #[.int .i64 t130, .int .i64 t131], .agg #[.int .i64 t128, .int .i64 t129]] rfl (by (try simp only [List.map_toArray, List.map_cons, List.map_nil]); first | done | rfl | (simp only [List.length_drop, List.length_take]; rfl)) ?_; (with_reducible refine (addr_Overlap.calls k t130 t131 t128 t129 t140 t141 t142 t143 _ A8.out).mono ?_); rintro e w24 ⟨rfl, hb⟩; refine ⟨_, rfl, ?_⟩; have n0_ := Aside0.mk (blk_below (g := gb133) (o := .cells #[.int .i64 t128, .int .i64 t129] 23 (0, 0)) (by (iterate 2 ((with_reducible repeat (first | refine blk_drewN ?_ _ | refine blk_drew ?_ | refine blk_alloc ?_ _)); refine blk_far ?_ NB133_139.out _)); (with_reducible repeat (first | refine blk_drewN ?_ _ | refine blk_drew ?_ | refine blk_alloc ?_ _)); exact BK133.out) hb); have n1_ := Aside0.mk (blk_below (g := gb134) (o := .cells #[.int .i64 t130, .int .i64 t131] 23 (0, 0)) (by (iterate 2 ((with_reducible repeat (first | refine blk_drewN ?_ _ | refine blk_drew ?_ | refine blk_alloc ?_ _)); refine blk_far ?_ NB134_139.out _)); (with_reducible repeat (first | refine blk_drewN ?_ _ | refine blk_drew ?_ | refine blk_alloc ?_ _)); exact BK134.out) hb); have n2_ := Aside0.mk (blk_below (g := gb139) (o := .cells #[.int .i64 t135, .int .i64 t136] 23 (0, 0)) (by (with_reducible repeat (first | refine blk_drewN ?_ _ | refine blk_drew ?_ | refine blk_alloc ?_ _)); refine blk_put (cs := #[.int .i64 t135, .int .i64 0]) ?_ 1 _ rfl; (with_reducible repeat (first | refine blk_drewN ?_ _ | refine blk_drew ?_ | refine blk_alloc ?_ _)); refine blk_put (cs := #[.int .i64 0, .int .i64 0]) ?_ 0 _ rfl; (with_reducible repeat (first | refine blk_drewN ?_ _ | refine blk_drew ?_ | refine blk_alloc ?_ _)); exact BK139.out) hb); have n3_ := Aside0.mk (below_step (by repeat (first | (with_reducible first | exact HB.out | apply below_alloc | apply pw_below_drewN | apply below_drew1 | refine below_set ?_ GE133.out | refine below_set ?_ GE134.out | refine below_set ?_ GE139.out) | exact HB.out)) hb); clear BK133; clear BK134; clear BK139; clear HB; have BK133 := n0_; have BK134 := n1_; have BK139 := n2_; have HB := n3_; clear n0_ n1_ n2_ n3_; (try clear hb); (try clear hb2); (try clear hk); (try clear hi)) | ((with_reducible refine gate_dst (N := 13) rfl ?_); refine box_event ?hg (N := 13) ?hd (cs := #[.int .i64 0, .int .i64 0]) (t := 23) ?hr ?_; (case hd => rfl); (case hg => rfl); (case hr => first | (go_simp; done) | (go_simp; rfl)); intro gb144 hg w25 hbox hb; have n0_ := Aside0.mk (blk_below (g := gb133) (o := .cells #[.int .i64 t128, .int .i64 t129] 23 (0, 0)) (by (with_reducible repeat (first | refine blk_drewN ?_ _ | refine blk_drew ?_ | refine blk_alloc ?_ _)); exact BK133.out) hb); have n1_ := Aside0.mk (blk_below (g := gb134) (o := .cells #[.int .i64 t130, .int .i64 t131] 23 (0, 0)) (by (with_reducible repeat (first | refine blk_drewN ?_ _ | refine blk_drew ?_ | refine blk_alloc ?_ _)); exact BK134.out) hb); have n2_ := Aside0.mk (blk_below (g := gb139) (o := .cells #[.int .i64 t135, .int .i64 t136] 23 (0, 0)) (by (with_reducible repeat (first | refine blk_drewN ?_ _ | refine blk_drew ?_ | refine blk_alloc ?_ _)); exact BK139.out) hb); have n3_ := Aside0.mk (below_step (by repeat (first | (with_reducible first | exact HB.out | apply below_alloc | apply pw_below_drewN | apply below_drew1 | refine below_set ?_ GE133.out | refine below_set ?_ GE134.out | refine below_set ?_ GE139.out) | exact HB.out)) hb); have n4_ := Aside0.mk (hbox); have n5_ := Aside0.mk ((by rw [hg]; exact (below_size (by repeat (first | (with_reducible first | exact HB.out | apply below_alloc | apply pw_below_drewN | apply below_drew1 | refine below_set ?_ GE133.out | refine below_set ?_ GE134.out | refine below_set ?_ GE139.out) | exact HB.out))) : w.heap.size ≤ gb144)); have n6_ := Aside0.mk ((by rw [hg]; exact (below_size (by repeat (first | (with_reducible first | exact HB.out | apply below_alloc | apply pw_below_drewN | apply below_drew1 | refine below_set ?_ GE133.out | refine below_set ?_ GE134.out | refine below_set ?_ GE139.out) | exact HB.out))) : w.heap.size ≤ gb144)); have n7_ := Aside0.mk ((by rw [hg]; exact Nat.ne_of_lt (blk_lt (g := gb133) (o := .cells #[.int .i64 t128, .int .i64 t129] 23 (0, 0)) (by (with_reducible repeat (first | refine blk_drewN ?_ _ | refine blk_drew ?_ | refine blk_alloc ?_ _)); exact BK133.out)) : gb133 ≠ gb144)); have n8_ := Aside0.mk ((by rw [hg]; exact Nat.ne_of_gt (blk_lt (g := gb133) (o := .cells #[.int .i64 t128, .int .i64 t129] 23 (0, 0)) (by (with_reducible repeat (first | refine blk_drewN ?_ _ | refine blk_drew ?_ | refine blk_alloc ?_ _)); exact BK133.out)) : gb144 ≠ gb133)); have n9_ := Aside0.mk ((by rw [hg]; exact Nat.ne_of_lt (blk_lt (g := gb134) (o := .cells #[.int .i64 t130, .int .i64 t131] 23 (0, 0)) (by (with_reducible repeat (first | refine blk_drewN ?_ _ | refine blk_drew ?_ | refine blk_alloc ?_ _)); exact BK134.out)) : gb134 ≠ gb144)); have n10_ := Aside0.mk ((by rw [hg]; exact Nat.ne_of_gt (blk_lt (g := gb134) (o := .cells #[.int .i64 t130, .int .i64 t131] 23 (0, 0)) (by (with_reducible repeat (first | refine blk_drewN ?_ _ | refine blk_drew ?_ | refine blk_alloc ?_ _)); exact BK134.out)) : gb144 ≠ gb134)); have n11_ := Aside0.mk ((by rw [hg]; exact Nat.ne_of_lt (blk_lt (g := gb139) (o := .cells #[.int .i64 t135, .int .i64 t136] 23 (0, 0)) (by (with_reducible repeat (first | refine blk_drewN ?_ _ | refine blk_drew ?_ | refine blk_alloc ?_ _)); exact BK139.out)) : gb139 ≠ gb144)); have n12_ := Aside0.mk ((by rw [hg]; exact Nat.ne_of_gt (blk_lt (g := gb139) (o := .cells #[.int .i64 t135, .int .i64 t136] 23 (0, 0)) (by (with_reducible repeat (first | refine blk_drewN ?_ _ | refine blk_drew ?_ | refine blk_alloc ?_ _)); exact BK139.out)) : gb144 ≠ gb139)); clear BK133; clear BK134; clear BK139; clear HB; have BK133 := n0_; have BK134 := n1_; have BK139 := n2_; have HB := n3_; have BK144 := n4_; have GW144 := n5_; have GE144 := n6_; have NB133_144 := n7_; have NB144_133 := n8_; have NB134_144 := n9_; have NB144_134 := n10_; have NB139_144 := n11_; have NB144_139 := n12_; clear n0_ n1_ n2_ n3_ n4_ n5_ n6_ n7_ n8_ n9_ n10_ n11_ n12_; clear hb hbox hg; have hnb26 := NB144_133.out; have hnc26 := NB133_144.out; have hnb27 := NB144_134.out; have hnc27 := NB134_144.out; have hnb28 := NB144_139.out; have hnc28 := NB139_144.out; have hcz29_0 : w25.cell? ⟨gb144, 0, none⟩ = some (.int .i64 0) := (blk_cell BK144.out 0).trans rfl; have hcz29_1 : w25.cell? ⟨gb144, 1, none⟩ = some (.int .i64 0) := (blk_cell BK144.out 1).trans rfl; have hfz29_0 := blk_frozen BK144.out 0; have hfz29_1 := blk_frozen BK144.out 1))
 (try simp only [Act.put, List.setIfInBounds_toArray, List.set_cons_zero, List.set_cons_succ])
 have H := HQ9.out
 clear HQ9
 by_cases c30 : t138 = 0
 ·
  rw [if_pos c30] at H
  have c30b0 : (t138 == 0) = true := beq_iff_eq.mpr c30
  have c30b1 : (t138 != 0) = false := bne_eq_false_iff_eq.mpr c30
  clear c30
  by_cases c31 : t143 = 0
  ·
   rw [if_pos c31] at H
   have c31b0 : (t143 == 0) = true := beq_iff_eq.mpr c31
   have c31b1 : (t143 != 0) = false := bne_eq_false_iff_eq.mpr c31
   clear c31
   by_cases c32 : (!(t135 == t140) || (!(t136 == t141))) = true
   ·
    rw [if_pos c32] at H
    have c32b0 : (!(t135 == t140) || (!(t136 == t141))) = true := c32
    clear c32
    obtain rfl := Option.some.inj H
    have hnb33 := NB139_133.out
    have hnc33 := NB133_139.out
    have hnb34 := NB139_134.out
    have hnc34 := NB134_139.out
    have hnb35 := NB139_144.out
    have hnc35 := NB144_139.out
    have hcz36_0 : w25.cell? ⟨gb139, 0, none⟩ = some (.int .i64 t135) := (blk_cell BK139.out 0).trans rfl
    have hcz36_1 : w25.cell? ⟨gb139, 1, none⟩ = some (.int .i64 t136) := (blk_cell BK139.out 1).trans rfl
    have hfz36_0 := blk_frozen BK139.out 0
    have hfz36_1 := blk_frozen BK139.out 1
    have hnb37 := NB144_133.out
    have hnc37 := NB133_144.out
    have hnb38 := NB144_134.out
    have hnc38 := NB134_144.out
    have hcz39_0 : w25.cell? ⟨gb144, 0, none⟩ = some (.int .i64 0) := (blk_cell BK144.out 0).trans rfl
    have hcz39_1 : w25.cell? ⟨gb144, 1, none⟩ = some (.int .i64 0) := (blk_cell BK144.out 1).trans rfl
    have hfz39_0 := blk_frozen BK144.out 0
    have hfz39_1 := blk_frozen BK144.out 1
    go_wp2
    go_ret
    exact ⟨by first | rfl | (simp [errW_none, errW_some] <;> rfl) | (simp [*, errW_none, errW_some] <;> rfl), by repeat (first | (with_reducible first | exact HB.out | apply below_alloc | apply pw_below_drewN | apply below_drew1 | refine below_set ?_ GE133.out | refine below_set ?_ GE134.out | refine below_set ?_ GE139.out | refine below_set ?_ GE144.out) | exact HB.out)⟩
   ·
    rw [if_neg c32] at H
    have c32b0 : (!(t135 == t140) || (!(t136 == t141))) = false := by first | (simp; done) | (simp at c32; done) | simpa using c32
    clear c32
    by_cases c40 : (t137 != t142) = true
    ·
     rw [if_pos c40] at H
     have c40b0 : (t137 != t142) = true := c40
     (try (have c40b1 : decide (t137 = t142) = false := by first | (simp; done) | (simp at c40; done) | simpa using c40))
     (try (have c40b2 : (t137 == t142) = false := by first | (simp; done) | (simp at c40; done) | simpa using c40))
     (try (have c40b3 : ¬ (t137 = t142) := by first | (simp; done) | (simp at c40; done) | simpa using c40))
     clear c40
     obtain rfl := Option.some.inj H
     have hnb41 := NB139_133.out
     have hnc41 := NB133_139.out
     have hnb42 := NB139_134.out
     have hnc42 := NB134_139.out
     have hnb43 := NB139_144.out
     have hnc43 := NB144_139.out
     have hcz44_0 : w25.cell? ⟨gb139, 0, none⟩ = some (.int .i64 t135) := (blk_cell BK139.out 0).trans rfl
     have hcz44_1 : w25.cell? ⟨gb139, 1, none⟩ = some (.int .i64 t136) := (blk_cell BK139.out 1).trans rfl
     have hfz44_0 := blk_frozen BK139.out 0
     have hfz44_1 := blk_frozen BK139.out 1
     have hnb45 := NB144_133.out
     have hnc45 := NB133_144.out
     have hnb46 := NB144_134.out
     have hnc46 := NB134_144.out
     have hcz47_0 : w25.cell? ⟨gb144, 0, none⟩ = some (.int .i64 0) := (blk_cell BK144.out 0).trans rfl
     have hcz47_1 : w25.cell? ⟨gb144, 1, none⟩ = some (.int .i64 0) := (blk_cell BK144.out 1).trans rfl
     have hfz47_0 := blk_frozen BK144.out 0
     have hfz47_1 := blk_frozen BK144.out 1
     go_wp2
     go_ret
     exact ⟨by first | rfl | (simp [errW_none, errW_some] <;> rfl) | (simp [*, errW_none, errW_some] <;> rfl), by repeat (first | (with_reducible first | exact HB.out | apply below_alloc | apply pw_below_drewN | apply below_drew1 | refine below_set ?_ GE133.out | refine below_set ?_ GE134.out | refine below_set ?_ GE139.out | refine below_set ?_ GE144.out) | exact HB.out)⟩
    ·
     rw [if_neg c40] at H
     have c40b0 : (t137 != t142) = false := by first | (simp; done) | (simp at c40; done) | simpa using c40
     (try (have c40b1 : decide (t137 = t142) = true := by first | (simp; done) | (simp at c40; done) | simpa using c40))
     (try (have c40b2 : (t137 == t142) = true := by first | (simp; done) | (simp at c40; done) | simpa using c40))
     clear c40
     by_cases c48 : t128 ≤ t132
     ·
      rw [if_pos c48] at H
      have c48b0 : decide (t128 ≤ t132) = true := decide_eq_true c48
      clear c48
      by_cases c49 : t132 ≤ t129
      ·
       rw [if_pos c49] at H
       have c49b0 : decide (t132 ≤ t129) = true := decide_eq_true c49
       clear c49
       by_cases c50 : t130 ≤ t132
       ·
        rw [if_pos c50] at H
        have c50b0 : decide (t130 ≤ t132) = true := decide_eq_true c50
        clear c50
        by_cases c51 : t137 = true
        ·
         subst c51
         have H1 : (if t135 ≤ t132 then (if ((decide (t132 ≤ t136)) == (decide (t132 ≤ t131))) = true then ((headgatelaw03_awake.f k).bind fun t145 => (some t145)) else (some false)) else (if (false == (decide (t132 ≤ t131))) = true then ((headgatelaw03_awake.f k).bind fun t146 => (some t146)) else (some false))) = some r := by rw [if_pos rfl] at H; exact H
         clear H
         have H := H1
         clear H1
         (try simp only [beq_true, beq_false, Bool.true_beq, Bool.false_beq, Bool.not_true, Bool.not_false, Bool.not_not, Bool.not_eq_true'] at c40b0 c40b1 c40b2)
         by_cases c52 : t135 ≤ t132
         ·
          rw [if_pos c52] at H
          have c52b0 : decide (t135 ≤ t132) = true := decide_eq_true c52
          clear c52
          by_cases c53 : ((decide (t132 ≤ t136)) == (decide (t132 ≤ t131))) = true
          ·
           rw [if_pos c53] at H
           have c53b0 : ((decide (t132 ≤ t136)) == (decide (t132 ≤ t131))) = true := c53
           (try (have c53b1 : decide ((decide (t132 ≤ t136)) = (decide (t132 ≤ t131))) = true := by first | (simp; done) | (simp at c53; done) | simpa using c53))
           (try (have c53b2 : ((decide (t132 ≤ t136)) == (decide (t132 ≤ t131))) = true := by first | (simp; done) | (simp at c53; done) | simpa using c53))
           clear c53
           replace H := Option.bind_eq_some_iff.mp H
           obtain ⟨t145, A540, H⟩ := H
           replace H : (some t145) = some r := H
           have A54 := Aside0.mk A540
           clear A540
           obtain rfl := Option.some.inj H
           have hnb55 := NB139_133.out
           have hnc55 := NB133_139.out
           have hnb56 := NB139_134.out
           have hnc56 := NB134_139.out
           have hnb57 := NB139_144.out
           have hnc57 := NB144_139.out
           have hcz58_0 : w25.cell? ⟨gb139, 0, none⟩ = some (.int .i64 t135) := (blk_cell BK139.out 0).trans rfl
           have hcz58_1 : w25.cell? ⟨gb139, 1, none⟩ = some (.int .i64 t136) := (blk_cell BK139.out 1).trans rfl
           have hfz58_0 := blk_frozen BK139.out 0
           have hfz58_1 := blk_frozen BK139.out 1
           have hnb59 := NB144_133.out
           have hnc59 := NB133_144.out
           have hnb60 := NB144_134.out
           have hnc60 := NB134_144.out
           have hcz61_0 : w25.cell? ⟨gb144, 0, none⟩ = some (.int .i64 0) := (blk_cell BK144.out 0).trans rfl
           have hcz61_1 : w25.cell? ⟨gb144, 1, none⟩ = some (.int .i64 0) := (blk_cell BK144.out 1).trans rfl
           have hfz61_0 := blk_frozen BK144.out 0
           have hfz61_1 := blk_frozen BK144.out 1
           have hnb62 := NB133_134.out
           have hnc62 := NB134_133.out
           have hcz63_0 : w25.cell? ⟨gb133, 0, none⟩ = some (.int .i64 t128) := (blk_cell BK133.out 0).trans rfl
           have hcz63_1 : w25.cell? ⟨gb133, 1, none⟩ = some (.int .i64 t129) := (blk_cell BK133.out 1).trans rfl
           have hfz63_0 := blk_frozen BK133.out 0
           have hfz63_1 := blk_frozen BK133.out 1
           have hcz64_0 : w25.cell? ⟨gb134, 0, none⟩ = some (.int .i64 t130) := (blk_cell BK134.out 0).trans rfl
           have hcz64_1 : w25.cell? ⟨gb134, 1, none⟩ = some (.int .i64 t131) := (blk_cell BK134.out 1).trans rfl
           have hfz64_0 := blk_frozen BK134.out 0
           have hfz64_1 := blk_frozen BK134.out 1
           go_wp2_with (first | (go_at_call 11; (with_reducible refine (headgatelaw03_awake.calls k  t145 _ A54.out).mono ?_); rintro e w65 ⟨rfl, hb⟩; have n0_ := Aside0.mk (blk_below (g := gb133) (o := .cells #[.int .i64 t128, .int .i64 t129] 23 (0, 0)) (by (iterate 2 ((with_reducible repeat (first | refine blk_drewN ?_ _ | refine blk_drew ?_ | refine blk_alloc ?_ _)); refine blk_far ?_ NB133_144.out _)); (with_reducible repeat (first | refine blk_drewN ?_ _ | refine blk_drew ?_ | refine blk_alloc ?_ _)); exact BK133.out) hb); have n1_ := Aside0.mk (blk_below (g := gb134) (o := .cells #[.int .i64 t130, .int .i64 t131] 23 (0, 0)) (by (iterate 2 ((with_reducible repeat (first | refine blk_drewN ?_ _ | refine blk_drew ?_ | refine blk_alloc ?_ _)); refine blk_far ?_ NB134_144.out _)); (with_reducible repeat (first | refine blk_drewN ?_ _ | refine blk_drew ?_ | refine blk_alloc ?_ _)); exact BK134.out) hb); have n2_ := Aside0.mk (blk_below (g := gb139) (o := .cells #[.int .i64 t135, .int .i64 t136] 23 (0, 0)) (by (iterate 2 ((with_reducible repeat (first | refine blk_drewN ?_ _ | refine blk_drew ?_ | refine blk_alloc ?_ _)); refine blk_far ?_ NB139_144.out _)); (with_reducible repeat (first | refine blk_drewN ?_ _ | refine blk_drew ?_ | refine blk_alloc ?_ _)); exact BK139.out) hb); have n3_ := Aside0.mk (blk_below (g := gb144) (o := .cells #[.int .i64 t140, .int .i64 t141] 23 (0, 0)) (by (with_reducible repeat (first | refine blk_drewN ?_ _ | refine blk_drew ?_ | refine blk_alloc ?_ _)); refine blk_put (cs := #[.int .i64 t140, .int .i64 0]) ?_ 1 _ rfl; (with_reducible repeat (first | refine blk_drewN ?_ _ | refine blk_drew ?_ | refine blk_alloc ?_ _)); refine blk_put (cs := #[.int .i64 0, .int .i64 0]) ?_ 0 _ rfl; (with_reducible repeat (first | refine blk_drewN ?_ _ | refine blk_drew ?_ | refine blk_alloc ?_ _)); exact BK144.out) hb); have n4_ := Aside0.mk (below_step (by repeat (first | (with_reducible first | exact HB.out | apply below_alloc | apply pw_below_drewN | apply below_drew1 | refine below_set ?_ GE133.out | refine below_set ?_ GE134.out | refine below_set ?_ GE139.out | refine below_set ?_ GE144.out) | exact HB.out)) hb); clear BK133; clear BK134; clear BK139; clear BK144; clear HB; have BK133 := n0_; have BK134 := n1_; have BK139 := n2_; have BK144 := n3_; have HB := n4_; clear n0_ n1_ n2_ n3_ n4_; (try clear hb); (try clear hb2); (try clear hk); (try clear hi)))
           go_ret
           exact ⟨by first | rfl | (simp [errW_none, errW_some] <;> rfl) | (simp [*, errW_none, errW_some] <;> rfl), by repeat (first | (with_reducible first | exact HB.out | apply below_alloc | apply pw_below_drewN | apply below_drew1 | refine below_set ?_ GE133.out | refine below_set ?_ GE134.out | refine below_set ?_ GE139.out | refine below_set ?_ GE144.out) | exact HB.out)⟩
          ·
           rw [if_neg c53] at H
           have c53b0 : ((decide (t132 ≤ t136)) == (decide (t132 ≤ t131))) = false := by first | (simp; done) | (simp at c53; done) | simpa using c53
           (try (have c53b1 : decide ((decide (t132 ≤ t136)) = (decide (t132 ≤ t131))) = false := by first | (simp; done) | (simp at c53; done) | simpa using c53))
           (try (have c53b2 : ((decide (t132 ≤ t136)) == (decide (t132 ≤ t131))) = false := by first | (simp; done) | (simp at c53; done) | simpa using c53))
           (try (have c53b3 : ¬ ((decide (t132 ≤ t136)) = (decide (t132 ≤ t131))) := by first | (simp; done) | (simp at c53; done) | simpa using c53))
           clear c53
           obtain rfl := Option.some.inj H
           have hnb66 := NB139_133.out
           have hnc66 := NB133_139.out
           have hnb67 := NB139_134.out
           have hnc67 := NB134_139.out
           have hnb68 := NB139_144.out
           have hnc68 := NB144_139.out
           have hcz69_0 : w25.cell? ⟨gb139, 0, none⟩ = some (.int .i64 t135) := (blk_cell BK139.out 0).trans rfl
           have hcz69_1 : w25.cell? ⟨gb139, 1, none⟩ = some (.int .i64 t136) := (blk_cell BK139.out 1).trans rfl
           have hfz69_0 := blk_frozen BK139.out 0
           have hfz69_1 := blk_frozen BK139.out 1
           have hnb70 := NB144_133.out
           have hnc70 := NB133_144.out
           have hnb71 := NB144_134.out
           have hnc71 := NB134_144.out
           have hcz72_0 : w25.cell? ⟨gb144, 0, none⟩ = some (.int .i64 0) := (blk_cell BK144.out 0).trans rfl
           have hcz72_1 : w25.cell? ⟨gb144, 1, none⟩ = some (.int .i64 0) := (blk_cell BK144.out 1).trans rfl
           have hfz72_0 := blk_frozen BK144.out 0
           have hfz72_1 := blk_frozen BK144.out 1
           have hnb73 := NB133_134.out
           have hnc73 := NB134_133.out
           have hcz74_0 : w25.cell? ⟨gb133, 0, none⟩ = some (.int .i64 t128) := (blk_cell BK133.out 0).trans rfl
           have hcz74_1 : w25.cell? ⟨gb133, 1, none⟩ = some (.int .i64 t129) := (blk_cell BK133.out 1).trans rfl
           have hfz74_0 := blk_frozen BK133.out 0
           have hfz74_1 := blk_frozen BK133.out 1
           have hcz75_0 : w25.cell? ⟨gb134, 0, none⟩ = some (.int .i64 t130) := (blk_cell BK134.out 0).trans rfl
           have hcz75_1 : w25.cell? ⟨gb134, 1, none⟩ = some (.int .i64 t131) := (blk_cell BK134.out 1).trans rfl
           have hfz75_0 := blk_frozen BK134.out 0
           have hfz75_1 := blk_frozen BK134.out 1
           go_wp2
           go_ret
           exact ⟨by first | rfl | (simp [errW_none, errW_some] <;> rfl) | (simp [*, errW_none, errW_some] <;> rfl), by repeat (first | (with_reducible first | exact HB.out | apply below_alloc | apply pw_below_drewN | apply below_drew1 | refine below_set ?_ GE133.out | refine below_set ?_ GE134.out | refine below_set ?_ GE139.out | refine below_set ?_ GE144.out) | exact HB.out)⟩
         ·
          rw [if_neg c52] at H
          have c52b0 : decide (t135 ≤ t132) = false := decide_eq_false c52
          clear c52
          by_cases c76 : (false == (decide (t132 ≤ t131))) = true
          ·
           rw [if_pos c76] at H
           have c76b0 : (false == (decide (t132 ≤ t131))) = true := c76
           (try (have c76b1 : decide (false = (decide (t132 ≤ t131))) = true := by first | (simp; done) | (simp at c76; done) | simpa using c76))
           (try (have c76b2 : (false == (decide (t132 ≤ t131))) = true := by first | (simp; done) | (simp at c76; done) | simpa using c76))
           clear c76
           replace H := Option.bind_eq_some_iff.mp H
           obtain ⟨t146, A770, H⟩ := H
           replace H : (some t146) = some r := H
           have A77 := Aside0.mk A770
           clear A770
           obtain rfl := Option.some.inj H
           have hnb78 := NB139_133.out
           have hnc78 := NB133_139.out
           have hnb79 := NB139_134.out
           have hnc79 := NB134_139.out
           have hnb80 := NB139_144.out
           have hnc80 := NB144_139.out
           have hcz81_0 : w25.cell? ⟨gb139, 0, none⟩ = some (.int .i64 t135) := (blk_cell BK139.out 0).trans rfl
           have hcz81_1 : w25.cell? ⟨gb139, 1, none⟩ = some (.int .i64 t136) := (blk_cell BK139.out 1).trans rfl
           have hfz81_0 := blk_frozen BK139.out 0
           have hfz81_1 := blk_frozen BK139.out 1
           have hnb82 := NB144_133.out
           have hnc82 := NB133_144.out
           have hnb83 := NB144_134.out
           have hnc83 := NB134_144.out
           have hcz84_0 : w25.cell? ⟨gb144, 0, none⟩ = some (.int .i64 0) := (blk_cell BK144.out 0).trans rfl
           have hcz84_1 : w25.cell? ⟨gb144, 1, none⟩ = some (.int .i64 0) := (blk_cell BK144.out 1).trans rfl
           have hfz84_0 := blk_frozen BK144.out 0
           have hfz84_1 := blk_frozen BK144.out 1
           have hnb85 := NB133_134.out
           have hnc85 := NB134_133.out
           have hcz86_0 : w25.cell? ⟨gb133, 0, none⟩ = some (.int .i64 t128) := (blk_cell BK133.out 0).trans rfl
           have hcz86_1 : w25.cell? ⟨gb133, 1, none⟩ = some (.int .i64 t129) := (blk_cell BK133.out 1).trans rfl
           have hfz86_0 := blk_frozen BK133.out 0
           have hfz86_1 := blk_frozen BK133.out 1
           have hcz87_0 : w25.cell? ⟨gb134, 0, none⟩ = some (.int .i64 t130) := (blk_cell BK134.out 0).trans rfl
           have hcz87_1 : w25.cell? ⟨gb134, 1, none⟩ = some (.int .i64 t131) := (blk_cell BK134.out 1).trans rfl
           have hfz87_0 := blk_frozen BK134.out 0
           have hfz87_1 := blk_frozen BK134.out 1
           go_wp2_with (first | (go_at_call 11; (with_reducible refine (headgatelaw03_awake.calls k  t146 _ A77.out).mono ?_); rintro e w88 ⟨rfl, hb⟩; have n0_ := Aside0.mk (blk_below (g := gb133) (o := .cells #[.int .i64 t128, .int .i64 t129] 23 (0, 0)) (by (iterate 2 ((with_reducible repeat (first | refine blk_drewN ?_ _ | refine blk_drew ?_ | refine blk_alloc ?_ _)); refine blk_far ?_ NB133_144.out _)); (with_reducible repeat (first | refine blk_drewN ?_ _ | refine blk_drew ?_ | refine blk_alloc ?_ _)); exact BK133.out) hb); have n1_ := Aside0.mk (blk_below (g := gb134) (o := .cells #[.int .i64 t130, .int .i64 t131] 23 (0, 0)) (by (iterate 2 ((with_reducible repeat (first | refine blk_drewN ?_ _ | refine blk_drew ?_ | refine blk_alloc ?_ _)); refine blk_far ?_ NB134_144.out _)); (with_reducible repeat (first | refine blk_drewN ?_ _ | refine blk_drew ?_ | refine blk_alloc ?_ _)); exact BK134.out) hb); have n2_ := Aside0.mk (blk_below (g := gb139) (o := .cells #[.int .i64 t135, .int .i64 t136] 23 (0, 0)) (by (iterate 2 ((with_reducible repeat (first | refine blk_drewN ?_ _ | refine blk_drew ?_ | refine blk_alloc ?_ _)); refine blk_far ?_ NB139_144.out _)); (with_reducible repeat (first | refine blk_drewN ?_ _ | refine blk_drew ?_ | refine blk_alloc ?_ _)); exact BK139.out) hb); have n3_ := Aside0.mk (blk_below (g := gb144) (o := .cells #[.int .i64 t140, .int .i64 t141] 23 (0, 0)) (by (with_reducible repeat (first | refine blk_drewN ?_ _ | refine blk_drew ?_ | refine blk_alloc ?_ _)); refine blk_put (cs := #[.int .i64 t140, .int .i64 0]) ?_ 1 _ rfl; (with_reducible repeat (first | refine blk_drewN ?_ _ | refine blk_drew ?_ | refine blk_alloc ?_ _)); refine blk_put (cs := #[.int .i64 0, .int .i64 0]) ?_ 0 _ rfl; (with_reducible repeat (first | refine blk_drewN ?_ _ | refine blk_drew ?_ | refine blk_alloc ?_ _)); exact BK144.out) hb); have n4_ := Aside0.mk (below_step (by repeat (first | (with_reducible first | exact HB.out | apply below_alloc | apply pw_below_drewN | apply below_drew1 | refine below_set ?_ GE133.out | refine below_set ?_ GE134.out | refine below_set ?_ GE139.out | refine below_set ?_ GE144.out) | exact HB.out)) hb); clear BK133; clear BK134; clear BK139; clear BK144; clear HB; have BK133 := n0_; have BK134 := n1_; have BK139 := n2_; have BK144 := n3_; have HB := n4_; clear n0_ n1_ n2_ n3_ n4_; (try clear hb); (try clear hb2); (try clear hk); (try clear hi)))
           go_ret
           exact ⟨by first | rfl | (simp [errW_none, errW_some] <;> rfl) | (simp [*, errW_none, errW_some] <;> rfl), by repeat (first | (with_reducible first | exact HB.out | apply below_alloc | apply pw_below_drewN | apply below_drew1 | refine below_set ?_ GE133.out | refine below_set ?_ GE134.out | refine below_set ?_ GE139.out | refine below_set ?_ GE144.out) | exact HB.out)⟩
          ·
           rw [if_neg c76] at H
           have c76b0 : (false == (decide (t132 ≤ t131))) = false := by first | (simp; done) | (simp at c76; done) | simpa using c76
           (try (have c76b1 : decide (false = (decide (t132 ≤ t131))) = false := by first | (simp; done) | (simp at c76; done) | simpa using c76))
           (try (have c76b2 : (false == (decide (t132 ≤ t131))) = false := by first | (simp; done) | (simp at c76; done) | simpa using c76))
           (try (have c76b3 : ¬ (false = (decide (t132 ≤ t131))) := by first | (simp; done) | (simp at c76; done) | simpa using c76))
           clear c76
           obtain rfl := Option.some.inj H
           have hnb89 := NB139_133.out
           have hnc89 := NB133_139.out
           have hnb90 := NB139_134.out
           have hnc90 := NB134_139.out
           have hnb91 := NB139_144.out
           have hnc91 := NB144_139.out
           have hcz92_0 : w25.cell? ⟨gb139, 0, none⟩ = some (.int .i64 t135) := (blk_cell BK139.out 0).trans rfl
           have hcz92_1 : w25.cell? ⟨gb139, 1, none⟩ = some (.int .i64 t136) := (blk_cell BK139.out 1).trans rfl
           have hfz92_0 := blk_frozen BK139.out 0
           have hfz92_1 := blk_frozen BK139.out 1
           have hnb93 := NB144_133.out
           have hnc93 := NB133_144.out
           have hnb94 := NB144_134.out
           have hnc94 := NB134_144.out
           have hcz95_0 : w25.cell? ⟨gb144, 0, none⟩ = some (.int .i64 0) := (blk_cell BK144.out 0).trans rfl
           have hcz95_1 : w25.cell? ⟨gb144, 1, none⟩ = some (.int .i64 0) := (blk_cell BK144.out 1).trans rfl
           have hfz95_0 := blk_frozen BK144.out 0
           have hfz95_1 := blk_frozen BK144.out 1
           have hnb96 := NB133_134.out
           have hnc96 := NB134_133.out
           have hcz97_0 : w25.cell? ⟨gb133, 0, none⟩ = some (.int .i64 t128) := (blk_cell BK133.out 0).trans rfl
           have hcz97_1 : w25.cell? ⟨gb133, 1, none⟩ = some (.int .i64 t129) := (blk_cell BK133.out 1).trans rfl
           have hfz97_0 := blk_frozen BK133.out 0
           have hfz97_1 := blk_frozen BK133.out 1
           have hcz98_0 : w25.cell? ⟨gb134, 0, none⟩ = some (.int .i64 t130) := (blk_cell BK134.out 0).trans rfl
           have hcz98_1 : w25.cell? ⟨gb134, 1, none⟩ = some (.int .i64 t131) := (blk_cell BK134.out 1).trans rfl
           have hfz98_0 := blk_frozen BK134.out 0
           have hfz98_1 := blk_frozen BK134.out 1
           go_wp2
           go_ret
           exact ⟨by first | rfl | (simp [errW_none, errW_some] <;> rfl) | (simp [*, errW_none, errW_some] <;> rfl), by repeat (first | (with_reducible first | exact HB.out | apply below_alloc | apply pw_below_drewN | apply below_drew1 | refine below_set ?_ GE133.out | refine below_set ?_ GE134.out | refine below_set ?_ GE139.out | refine below_set ?_ GE144.out) | exact HB.out)⟩
        ·
         replace c51 := Bool.eq_false_iff.mpr c51
         subst c51
         have H1 : (if (false == (decide (t132 ≤ t131))) = true then ((headgatelaw03_awake.f k).bind fun t147 => (some t147)) else (some false)) = some r := by rw [if_neg (show ¬ (false = true) by decide)] at H; exact H
         clear H
         have H := H1
         clear H1
         (try simp only [beq_true, beq_false, Bool.true_beq, Bool.false_beq, Bool.not_true, Bool.not_false, Bool.not_not, Bool.not_eq_true'] at c40b0 c40b1 c40b2)
         by_cases c99 : (false == (decide (t132 ≤ t131))) = true
         ·
          rw [if_pos c99] at H
          have c99b0 : (false == (decide (t132 ≤ t131))) = true := c99
          (try (have c99b1 : decide (false = (decide (t132 ≤ t131))) = true := by first | (simp; done) | (simp at c99; done) | simpa using c99))
          (try (have c99b2 : (false == (decide (t132 ≤ t131))) = true := by first | (simp; done) | (simp at c99; done) | simpa using c99))
          clear c99
          replace H := Option.bind_eq_some_iff.mp H
          obtain ⟨t147, A1000, H⟩ := H
          replace H : (some t147) = some r := H
          have A100 := Aside0.mk A1000
          clear A1000
          obtain rfl := Option.some.inj H
          have hnb101 := NB139_133.out
          have hnc101 := NB133_139.out
          have hnb102 := NB139_134.out
          have hnc102 := NB134_139.out
          have hnb103 := NB139_144.out
          have hnc103 := NB144_139.out
          have hcz104_0 : w25.cell? ⟨gb139, 0, none⟩ = some (.int .i64 t135) := (blk_cell BK139.out 0).trans rfl
          have hcz104_1 : w25.cell? ⟨gb139, 1, none⟩ = some (.int .i64 t136) := (blk_cell BK139.out 1).trans rfl
          have hfz104_0 := blk_frozen BK139.out 0
          have hfz104_1 := blk_frozen BK139.out 1
          have hnb105 := NB144_133.out
          have hnc105 := NB133_144.out
          have hnb106 := NB144_134.out
          have hnc106 := NB134_144.out
          have hcz107_0 : w25.cell? ⟨gb144, 0, none⟩ = some (.int .i64 0) := (blk_cell BK144.out 0).trans rfl
          have hcz107_1 : w25.cell? ⟨gb144, 1, none⟩ = some (.int .i64 0) := (blk_cell BK144.out 1).trans rfl
          have hfz107_0 := blk_frozen BK144.out 0
          have hfz107_1 := blk_frozen BK144.out 1
          have hnb108 := NB133_134.out
          have hnc108 := NB134_133.out
          have hcz109_0 : w25.cell? ⟨gb133, 0, none⟩ = some (.int .i64 t128) := (blk_cell BK133.out 0).trans rfl
          have hcz109_1 : w25.cell? ⟨gb133, 1, none⟩ = some (.int .i64 t129) := (blk_cell BK133.out 1).trans rfl
          have hfz109_0 := blk_frozen BK133.out 0
          have hfz109_1 := blk_frozen BK133.out 1
          have hcz110_0 : w25.cell? ⟨gb134, 0, none⟩ = some (.int .i64 t130) := (blk_cell BK134.out 0).trans rfl
          have hcz110_1 : w25.cell? ⟨gb134, 1, none⟩ = some (.int .i64 t131) := (blk_cell BK134.out 1).trans rfl
          have hfz110_0 := blk_frozen BK134.out 0
          have hfz110_1 := blk_frozen BK134.out 1
          go_wp2_with (first | (go_at_call 11; (with_reducible refine (headgatelaw03_awake.calls k  t147 _ A100.out).mono ?_); rintro e w111 ⟨rfl, hb⟩; have n0_ := Aside0.mk (blk_below (g := gb133) (o := .cells #[.int .i64 t128, .int .i64 t129] 23 (0, 0)) (by (iterate 2 ((with_reducible repeat (first | refine blk_drewN ?_ _ | refine blk_drew ?_ | refine blk_alloc ?_ _)); refine blk_far ?_ NB133_144.out _)); (with_reducible repeat (first | refine blk_drewN ?_ _ | refine blk_drew ?_ | refine blk_alloc ?_ _)); exact BK133.out) hb); have n1_ := Aside0.mk (blk_below (g := gb134) (o := .cells #[.int .i64 t130, .int .i64 t131] 23 (0, 0)) (by (iterate 2 ((with_reducible repeat (first | refine blk_drewN ?_ _ | refine blk_drew ?_ | refine blk_alloc ?_ _)); refine blk_far ?_ NB134_144.out _)); (with_reducible repeat (first | refine blk_drewN ?_ _ | refine blk_drew ?_ | refine blk_alloc ?_ _)); exact BK134.out) hb); have n2_ := Aside0.mk (blk_below (g := gb139) (o := .cells #[.int .i64 t135, .int .i64 t136] 23 (0, 0)) (by (iterate 2 ((with_reducible repeat (first | refine blk_drewN ?_ _ | refine blk_drew ?_ | refine blk_alloc ?_ _)); refine blk_far ?_ NB139_144.out _)); (with_reducible repeat (first | refine blk_drewN ?_ _ | refine blk_drew ?_ | refine blk_alloc ?_ _)); exact BK139.out) hb); have n3_ := Aside0.mk (blk_below (g := gb144) (o := .cells #[.int .i64 t140, .int .i64 t141] 23 (0, 0)) (by (with_reducible repeat (first | refine blk_drewN ?_ _ | refine blk_drew ?_ | refine blk_alloc ?_ _)); refine blk_put (cs := #[.int .i64 t140, .int .i64 0]) ?_ 1 _ rfl; (with_reducible repeat (first | refine blk_drewN ?_ _ | refine blk_drew ?_ | refine blk_alloc ?_ _)); refine blk_put (cs := #[.int .i64 0, .int .i64 0]) ?_ 0 _ rfl; (with_reducible repeat (first | refine blk_drewN ?_ _ | refine blk_drew ?_ | refine blk_alloc ?_ _)); exact BK144.out) hb); have n4_ := Aside0.mk (below_step (by repeat (first | (with_reducible first | exact HB.out | apply below_alloc | apply pw_below_drewN | apply below_drew1 | refine below_set ?_ GE133.out | refine below_set ?_ GE134.out | refine below_set ?_ GE139.out | refine below_set ?_ GE144.out) | exact HB.out)) hb); clear BK133; clear BK134; clear BK139; clear BK144; clear HB; have BK133 := n0_; have BK134 := n1_; have BK139 := n2_; have BK144 := n3_; have HB := n4_; clear n0_ n1_ n2_ n3_ n4_; (try clear hb); (try clear hb2); (try clear hk); (try clear hi)))
          go_ret
          exact ⟨by first | rfl | (simp [errW_none, errW_some] <;> rfl) | (simp [*, errW_none, errW_some] <;> rfl), by repeat (first | (with_reducible first | exact HB.out | apply below_alloc | apply pw_below_drewN | apply below_drew1 | refine below_set ?_ GE133.out | refine below_set ?_ GE134.out | refine below_set ?_ GE139.out | refine below_set ?_ GE144.out) | exact HB.out)⟩
         ·
          rw [if_neg c99] at H
          have c99b0 : (false == (decide (t132 ≤ t131))) = false := by first | (simp; done) | (simp at c99; done) | simpa using c99
          (try (have c99b1 : decide (false = (decide (t132 ≤ t131))) = false := by first | (simp; done) | (simp at c99; done) | simpa using c99))
          (try (have c99b2 : (false == (decide (t132 ≤ t131))) = false := by first | (simp; done) | (simp at c99; done) | simpa using c99))
          (try (have c99b3 : ¬ (false = (decide (t132 ≤ t131))) := by first | (simp; done) | (simp at c99; done) | simpa using c99))
          clear c99
          obtain rfl := Option.some.inj H
          have hnb112 := NB139_133.out
          have hnc112 := NB133_139.out
          have hnb113 := NB139_134.out
          have hnc113 := NB134_139.out
          have hnb114 := NB139_144.out
          have hnc114 := NB144_139.out
          have hcz115_0 : w25.cell? ⟨gb139, 0, none⟩ = some (.int .i64 t135) := (blk_cell BK139.out 0).trans rfl
          have hcz115_1 : w25.cell? ⟨gb139, 1, none⟩ = some (.int .i64 t136) := (blk_cell BK139.out 1).trans rfl
          have hfz115_0 := blk_frozen BK139.out 0
          have hfz115_1 := blk_frozen BK139.out 1
          have hnb116 := NB144_133.out
          have hnc116 := NB133_144.out
          have hnb117 := NB144_134.out
          have hnc117 := NB134_144.out
          have hcz118_0 : w25.cell? ⟨gb144, 0, none⟩ = some (.int .i64 0) := (blk_cell BK144.out 0).trans rfl
          have hcz118_1 : w25.cell? ⟨gb144, 1, none⟩ = some (.int .i64 0) := (blk_cell BK144.out 1).trans rfl
          have hfz118_0 := blk_frozen BK144.out 0
          have hfz118_1 := blk_frozen BK144.out 1
          have hnb119 := NB133_134.out
          have hnc119 := NB134_133.out
          have hcz120_0 : w25.cell? ⟨gb133, 0, none⟩ = some (.int .i64 t128) := (blk_cell BK133.out 0).trans rfl
          have hcz120_1 : w25.cell? ⟨gb133, 1, none⟩ = some (.int .i64 t129) := (blk_cell BK133.out 1).trans rfl
          have hfz120_0 := blk_frozen BK133.out 0
          have hfz120_1 := blk_frozen BK133.out 1
          have hcz121_0 : w25.cell? ⟨gb134, 0, none⟩ = some (.int .i64 t130) := (blk_cell BK134.out 0).trans rfl
          have hcz121_1 : w25.cell? ⟨gb134, 1, none⟩ = some (.int .i64 t131) := (blk_cell BK134.out 1).trans rfl
          have hfz121_0 := blk_frozen BK134.out 0
          have hfz121_1 := blk_frozen BK134.out 1
          go_wp2
          go_ret
          exact ⟨by first | rfl | (simp [errW_none, errW_some] <;> rfl) | (simp [*, errW_none, errW_some] <;> rfl), by repeat (first | (with_reducible first | exact HB.out | apply below_alloc | apply pw_below_drewN | apply below_drew1 | refine below_set ?_ GE133.out | refine below_set ?_ GE134.out | refine below_set ?_ GE139.out | refine below_set ?_ GE144.out) | exact HB.out)⟩
       ·
        rw [if_neg c50] at H
        have c50b0 : decide (t130 ≤ t132) = false := decide_eq_false c50
        clear c50
        by_cases c122 : t137 = true
        ·
         subst c122
         have H1 : (if t135 ≤ t132 then (if ((decide (t132 ≤ t136)) == false) = true then ((headgatelaw03_awake.f k).bind fun t148 => (some t148)) else (some false)) else (if (false == false) = true then ((headgatelaw03_awake.f k).bind fun t149 => (some t149)) else (some false))) = some r := by rw [if_pos rfl] at H; exact H
         clear H
         have H := H1
         clear H1
         (try simp only [beq_true, beq_false, Bool.true_beq, Bool.false_beq, Bool.not_true, Bool.not_false, Bool.not_not, Bool.not_eq_true'] at c40b0 c40b1 c40b2)
         by_cases c123 : t135 ≤ t132
         ·
          rw [if_pos c123] at H
          have c123b0 : decide (t135 ≤ t132) = true := decide_eq_true c123
          clear c123
          by_cases c124 : ((decide (t132 ≤ t136)) == false) = true
          ·
           rw [if_pos c124] at H
           have c124b0 : ((decide (t132 ≤ t136)) == false) = true := c124
           (try (have c124b1 : decide ((decide (t132 ≤ t136)) = false) = true := by first | (simp; done) | (simp at c124; done) | simpa using c124))
           (try (have c124b2 : ((decide (t132 ≤ t136)) == false) = true := by first | (simp; done) | (simp at c124; done) | simpa using c124))
           clear c124
           replace H := Option.bind_eq_some_iff.mp H
           obtain ⟨t148, A1250, H⟩ := H
           replace H : (some t148) = some r := H
           have A125 := Aside0.mk A1250
           clear A1250
           obtain rfl := Option.some.inj H
           have hnb126 := NB139_133.out
           have hnc126 := NB133_139.out
           have hnb127 := NB139_134.out
           have hnc127 := NB134_139.out
           have hnb128 := NB139_144.out
           have hnc128 := NB144_139.out
           have hcz129_0 : w25.cell? ⟨gb139, 0, none⟩ = some (.int .i64 t135) := (blk_cell BK139.out 0).trans rfl
           have hcz129_1 : w25.cell? ⟨gb139, 1, none⟩ = some (.int .i64 t136) := (blk_cell BK139.out 1).trans rfl
           have hfz129_0 := blk_frozen BK139.out 0
           have hfz129_1 := blk_frozen BK139.out 1
           have hnb130 := NB144_133.out
           have hnc130 := NB133_144.out
           have hnb131 := NB144_134.out
           have hnc131 := NB134_144.out
           have hcz132_0 : w25.cell? ⟨gb144, 0, none⟩ = some (.int .i64 0) := (blk_cell BK144.out 0).trans rfl
           have hcz132_1 : w25.cell? ⟨gb144, 1, none⟩ = some (.int .i64 0) := (blk_cell BK144.out 1).trans rfl
           have hfz132_0 := blk_frozen BK144.out 0
           have hfz132_1 := blk_frozen BK144.out 1
           have hnb133 := NB133_134.out
           have hnc133 := NB134_133.out
           have hcz134_0 : w25.cell? ⟨gb133, 0, none⟩ = some (.int .i64 t128) := (blk_cell BK133.out 0).trans rfl
           have hcz134_1 : w25.cell? ⟨gb133, 1, none⟩ = some (.int .i64 t129) := (blk_cell BK133.out 1).trans rfl
           have hfz134_0 := blk_frozen BK133.out 0
           have hfz134_1 := blk_frozen BK133.out 1
           have hcz135_0 : w25.cell? ⟨gb134, 0, none⟩ = some (.int .i64 t130) := (blk_cell BK134.out 0).trans rfl
           have hcz135_1 : w25.cell? ⟨gb134, 1, none⟩ = some (.int .i64 t131) := (blk_cell BK134.out 1).trans rfl
           have hfz135_0 := blk_frozen BK134.out 0
           have hfz135_1 := blk_frozen BK134.out 1
           go_wp2_with (first | (go_at_call 11; (with_reducible refine (headgatelaw03_awake.calls k  t148 _ A125.out).mono ?_); rintro e w136 ⟨rfl, hb⟩; have n0_ := Aside0.mk (blk_below (g := gb133) (o := .cells #[.int .i64 t128, .int .i64 t129] 23 (0, 0)) (by (iterate 2 ((with_reducible repeat (first | refine blk_drewN ?_ _ | refine blk_drew ?_ | refine blk_alloc ?_ _)); refine blk_far ?_ NB133_144.out _)); (with_reducible repeat (first | refine blk_drewN ?_ _ | refine blk_drew ?_ | refine blk_alloc ?_ _)); exact BK133.out) hb); have n1_ := Aside0.mk (blk_below (g := gb134) (o := .cells #[.int .i64 t130, .int .i64 t131] 23 (0, 0)) (by (iterate 2 ((with_reducible repeat (first | refine blk_drewN ?_ _ | refine blk_drew ?_ | refine blk_alloc ?_ _)); refine blk_far ?_ NB134_144.out _)); (with_reducible repeat (first | refine blk_drewN ?_ _ | refine blk_drew ?_ | refine blk_alloc ?_ _)); exact BK134.out) hb); have n2_ := Aside0.mk (blk_below (g := gb139) (o := .cells #[.int .i64 t135, .int .i64 t136] 23 (0, 0)) (by (iterate 2 ((with_reducible repeat (first | refine blk_drewN ?_ _ | refine blk_drew ?_ | refine blk_alloc ?_ _)); refine blk_far ?_ NB139_144.out _)); (with_reducible repeat (first | refine blk_drewN ?_ _ | refine blk_drew ?_ | refine blk_alloc ?_ _)); exact BK139.out) hb); have n3_ := Aside0.mk (blk_below (g := gb144) (o := .cells #[.int .i64 t140, .int .i64 t141] 23 (0, 0)) (by (with_reducible repeat (first | refine blk_drewN ?_ _ | refine blk_drew ?_ | refine blk_alloc ?_ _)); refine blk_put (cs := #[.int .i64 t140, .int .i64 0]) ?_ 1 _ rfl; (with_reducible repeat (first | refine blk_drewN ?_ _ | refine blk_drew ?_ | refine blk_alloc ?_ _)); refine blk_put (cs := #[.int .i64 0, .int .i64 0]) ?_ 0 _ rfl; (with_reducible repeat (first | refine blk_drewN ?_ _ | refine blk_drew ?_ | refine blk_alloc ?_ _)); exact BK144.out) hb); have n4_ := Aside0.mk (below_step (by repeat (first | (with_reducible first | exact HB.out | apply below_alloc | apply pw_below_drewN | apply below_drew1 | refine below_set ?_ GE133.out | refine below_set ?_ GE134.out | refine below_set ?_ GE139.out | refine below_set ?_ GE144.out) | exact HB.out)) hb); clear BK133; clear BK134; clear BK139; clear BK144; clear HB; have BK133 := n0_; have BK134 := n1_; have BK139 := n2_; have BK144 := n3_; have HB := n4_; clear n0_ n1_ n2_ n3_ n4_; (try clear hb); (try clear hb2); (try clear hk); (try clear hi)))
           go_ret
           exact ⟨by first | rfl | (simp [errW_none, errW_some] <;> rfl) | (simp [*, errW_none, errW_some] <;> rfl), by repeat (first | (with_reducible first | exact HB.out | apply below_alloc | apply pw_below_drewN | apply below_drew1 | refine below_set ?_ GE133.out | refine below_set ?_ GE134.out | refine below_set ?_ GE139.out | refine below_set ?_ GE144.out) | exact HB.out)⟩
          ·
           rw [if_neg c124] at H
           have c124b0 : ((decide (t132 ≤ t136)) == false) = false := by first | (simp; done) | (simp at c124; done) | simpa using c124
           (try (have c124b1 : decide ((decide (t132 ≤ t136)) = false) = false := by first | (simp; done) | (simp at c124; done) | simpa using c124))
           (try (have c124b2 : ((decide (t132 ≤ t136)) == false) = false := by first | (simp; done) | (simp at c124; done) | simpa using c124))
           (try (have c124b3 : ¬ ((decide (t132 ≤ t136)) = false) := by first | (simp; done) | (simp at c124; done) | simpa using c124))
           clear c124
           obtain rfl := Option.some.inj H
           have hnb137 := NB139_133.out
           have hnc137 := NB133_139.out
           have hnb138 := NB139_134.out
           have hnc138 := NB134_139.out
           have hnb139 := NB139_144.out
           have hnc139 := NB144_139.out
           have hcz140_0 : w25.cell? ⟨gb139, 0, none⟩ = some (.int .i64 t135) := (blk_cell BK139.out 0).trans rfl
           have hcz140_1 : w25.cell? ⟨gb139, 1, none⟩ = some (.int .i64 t136) := (blk_cell BK139.out 1).trans rfl
           have hfz140_0 := blk_frozen BK139.out 0
           have hfz140_1 := blk_frozen BK139.out 1
           have hnb141 := NB144_133.out
           have hnc141 := NB133_144.out
           have hnb142 := NB144_134.out
           have hnc142 := NB134_144.out
           have hcz143_0 : w25.cell? ⟨gb144, 0, none⟩ = some (.int .i64 0) := (blk_cell BK144.out 0).trans rfl
           have hcz143_1 : w25.cell? ⟨gb144, 1, none⟩ = some (.int .i64 0) := (blk_cell BK144.out 1).trans rfl
           have hfz143_0 := blk_frozen BK144.out 0
           have hfz143_1 := blk_frozen BK144.out 1
           have hnb144 := NB133_134.out
           have hnc144 := NB134_133.out
           have hcz145_0 : w25.cell? ⟨gb133, 0, none⟩ = some (.int .i64 t128) := (blk_cell BK133.out 0).trans rfl
           have hcz145_1 : w25.cell? ⟨gb133, 1, none⟩ = some (.int .i64 t129) := (blk_cell BK133.out 1).trans rfl
           have hfz145_0 := blk_frozen BK133.out 0
           have hfz145_1 := blk_frozen BK133.out 1
           have hcz146_0 : w25.cell? ⟨gb134, 0, none⟩ = some (.int .i64 t130) := (blk_cell BK134.out 0).trans rfl
           have hcz146_1 : w25.cell? ⟨gb134, 1, none⟩ = some (.int .i64 t131) := (blk_cell BK134.out 1).trans rfl
           have hfz146_0 := blk_frozen BK134.out 0
           have hfz146_1 := blk_frozen BK134.out 1
           go_wp2
           go_ret
           exact ⟨by first | rfl | (simp [errW_none, errW_some] <;> rfl) | (simp [*, errW_none, errW_some] <;> rfl), by repeat (first | (with_reducible first | exact HB.out | apply below_alloc | apply pw_below_drewN | apply below_drew1 | refine below_set ?_ GE133.out | refine below_set ?_ GE134.out | refine below_set ?_ GE139.out | refine below_set ?_ GE144.out) | exact HB.out)⟩
         ·
          rw [if_neg c123] at H
          have c123b0 : decide (t135 ≤ t132) = false := decide_eq_false c123
          clear c123
          by_cases c147 : (false == false) = true
          ·
           rw [if_pos c147] at H
           have c147b0 : (false == false) = true := c147
           (try (have c147b1 : decide (false = false) = true := by first | (simp; done) | (simp at c147; done) | simpa using c147))
           (try (have c147b2 : (false == false) = true := by first | (simp; done) | (simp at c147; done) | simpa using c147))
           clear c147
           replace H := Option.bind_eq_some_iff.mp H
           obtain ⟨t149, A1480, H⟩ := H
           replace H : (some t149) = some r := H
           have A148 := Aside0.mk A1480
           clear A1480
           obtain rfl := Option.some.inj H
           have hnb149 := NB139_133.out
           have hnc149 := NB133_139.out
           have hnb150 := NB139_134.out
           have hnc150 := NB134_139.out
           have hnb151 := NB139_144.out
           have hnc151 := NB144_139.out
           have hcz152_0 : w25.cell? ⟨gb139, 0, none⟩ = some (.int .i64 t135) := (blk_cell BK139.out 0).trans rfl
           have hcz152_1 : w25.cell? ⟨gb139, 1, none⟩ = some (.int .i64 t136) := (blk_cell BK139.out 1).trans rfl
           have hfz152_0 := blk_frozen BK139.out 0
           have hfz152_1 := blk_frozen BK139.out 1
           have hnb153 := NB144_133.out
           have hnc153 := NB133_144.out
           have hnb154 := NB144_134.out
           have hnc154 := NB134_144.out
           have hcz155_0 : w25.cell? ⟨gb144, 0, none⟩ = some (.int .i64 0) := (blk_cell BK144.out 0).trans rfl
           have hcz155_1 : w25.cell? ⟨gb144, 1, none⟩ = some (.int .i64 0) := (blk_cell BK144.out 1).trans rfl
           have hfz155_0 := blk_frozen BK144.out 0
           have hfz155_1 := blk_frozen BK144.out 1
           have hnb156 := NB133_134.out
           have hnc156 := NB134_133.out
           have hcz157_0 : w25.cell? ⟨gb133, 0, none⟩ = some (.int .i64 t128) := (blk_cell BK133.out 0).trans rfl
           have hcz157_1 : w25.cell? ⟨gb133, 1, none⟩ = some (.int .i64 t129) := (blk_cell BK133.out 1).trans rfl
           have hfz157_0 := blk_frozen BK133.out 0
           have hfz157_1 := blk_frozen BK133.out 1
           have hcz158_0 : w25.cell? ⟨gb134, 0, none⟩ = some (.int .i64 t130) := (blk_cell BK134.out 0).trans rfl
           have hcz158_1 : w25.cell? ⟨gb134, 1, none⟩ = some (.int .i64 t131) := (blk_cell BK134.out 1).trans rfl
           have hfz158_0 := blk_frozen BK134.out 0
           have hfz158_1 := blk_frozen BK134.out 1
           go_wp2_with (first | (go_at_call 11; (with_reducible refine (headgatelaw03_awake.calls k  t149 _ A148.out).mono ?_); rintro e w159 ⟨rfl, hb⟩; have n0_ := Aside0.mk (blk_below (g := gb133) (o := .cells #[.int .i64 t128, .int .i64 t129] 23 (0, 0)) (by (iterate 2 ((with_reducible repeat (first | refine blk_drewN ?_ _ | refine blk_drew ?_ | refine blk_alloc ?_ _)); refine blk_far ?_ NB133_144.out _)); (with_reducible repeat (first | refine blk_drewN ?_ _ | refine blk_drew ?_ | refine blk_alloc ?_ _)); exact BK133.out) hb); have n1_ := Aside0.mk (blk_below (g := gb134) (o := .cells #[.int .i64 t130, .int .i64 t131] 23 (0, 0)) (by (iterate 2 ((with_reducible repeat (first | refine blk_drewN ?_ _ | refine blk_drew ?_ | refine blk_alloc ?_ _)); refine blk_far ?_ NB134_144.out _)); (with_reducible repeat (first | refine blk_drewN ?_ _ | refine blk_drew ?_ | refine blk_alloc ?_ _)); exact BK134.out) hb); have n2_ := Aside0.mk (blk_below (g := gb139) (o := .cells #[.int .i64 t135, .int .i64 t136] 23 (0, 0)) (by (iterate 2 ((with_reducible repeat (first | refine blk_drewN ?_ _ | refine blk_drew ?_ | refine blk_alloc ?_ _)); refine blk_far ?_ NB139_144.out _)); (with_reducible repeat (first | refine blk_drewN ?_ _ | refine blk_drew ?_ | refine blk_alloc ?_ _)); exact BK139.out) hb); have n3_ := Aside0.mk (blk_below (g := gb144) (o := .cells #[.int .i64 t140, .int .i64 t141] 23 (0, 0)) (by (with_reducible repeat (first | refine blk_drewN ?_ _ | refine blk_drew ?_ | refine blk_alloc ?_ _)); refine blk_put (cs := #[.int .i64 t140, .int .i64 0]) ?_ 1 _ rfl; (with_reducible repeat (first | refine blk_drewN ?_ _ | refine blk_drew ?_ | refine blk_alloc ?_ _)); refine blk_put (cs := #[.int .i64 0, .int .i64 0]) ?_ 0 _ rfl; (with_reducible repeat (first | refine blk_drewN ?_ _ | refine blk_drew ?_ | refine blk_alloc ?_ _)); exact BK144.out) hb); have n4_ := Aside0.mk (below_step (by repeat (first | (with_reducible first | exact HB.out | apply below_alloc | apply pw_below_drewN | apply below_drew1 | refine below_set ?_ GE133.out | refine below_set ?_ GE134.out | refine below_set ?_ GE139.out | refine below_set ?_ GE144.out) | exact HB.out)) hb); clear BK133; clear BK134; clear BK139; clear BK144; clear HB; have BK133 := n0_; have BK134 := n1_; have BK139 := n2_; have BK144 := n3_; have HB := n4_; clear n0_ n1_ n2_ n3_ n4_; (try clear hb); (try clear hb2); (try clear hk); (try clear hi)))
           go_ret
           exact ⟨by first | rfl | (simp [errW_none, errW_some] <;> rfl) | (simp [*, errW_none, errW_some] <;> rfl), by repeat (first | (with_reducible first | exact HB.out | apply below_alloc | apply pw_below_drewN | apply below_drew1 | refine below_set ?_ GE133.out | refine below_set ?_ GE134.out | refine below_set ?_ GE139.out | refine below_set ?_ GE144.out) | exact HB.out)⟩
          ·
           rw [if_neg c147] at H
           have c147b0 : (false == false) = false := by first | (simp; done) | (simp at c147; done) | simpa using c147
           (try (have c147b1 : decide (false = false) = false := by first | (simp; done) | (simp at c147; done) | simpa using c147))
           (try (have c147b2 : (false == false) = false := by first | (simp; done) | (simp at c147; done) | simpa using c147))
           (try (have c147b3 : ¬ (false = false) := by first | (simp; done) | (simp at c147; done) | simpa using c147))
           clear c147
           obtain rfl := Option.some.inj H
           have hnb160 := NB139_133.out
           have hnc160 := NB133_139.out
           have hnb161 := NB139_134.out
           have hnc161 := NB134_139.out
           have hnb162 := NB139_144.out
           have hnc162 := NB144_139.out
           have hcz163_0 : w25.cell? ⟨gb139, 0, none⟩ = some (.int .i64 t135) := (blk_cell BK139.out 0).trans rfl
           have hcz163_1 : w25.cell? ⟨gb139, 1, none⟩ = some (.int .i64 t136) := (blk_cell BK139.out 1).trans rfl
           have hfz163_0 := blk_frozen BK139.out 0
           have hfz163_1 := blk_frozen BK139.out 1
           have hnb164 := NB144_133.out
           have hnc164 := NB133_144.out
           have hnb165 := NB144_134.out
           have hnc165 := NB134_144.out
           have hcz166_0 : w25.cell? ⟨gb144, 0, none⟩ = some (.int .i64 0) := (blk_cell BK144.out 0).trans rfl
           have hcz166_1 : w25.cell? ⟨gb144, 1, none⟩ = some (.int .i64 0) := (blk_cell BK144.out 1).trans rfl
           have hfz166_0 := blk_frozen BK144.out 0
           have hfz166_1 := blk_frozen BK144.out 1
           have hnb167 := NB133_134.out
           have hnc167 := NB134_133.out
           have hcz168_0 : w25.cell? ⟨gb133, 0, none⟩ = some (.int .i64 t128) := (blk_cell BK133.out 0).trans rfl
           have hcz168_1 : w25.cell? ⟨gb133, 1, none⟩ = some (.int .i64 t129) := (blk_cell BK133.out 1).trans rfl
           have hfz168_0 := blk_frozen BK133.out 0
           have hfz168_1 := blk_frozen BK133.out 1
           have hcz169_0 : w25.cell? ⟨gb134, 0, none⟩ = some (.int .i64 t130) := (blk_cell BK134.out 0).trans rfl
           have hcz169_1 : w25.cell? ⟨gb134, 1, none⟩ = some (.int .i64 t131) := (blk_cell BK134.out 1).trans rfl
           have hfz169_0 := blk_frozen BK134.out 0
           have hfz169_1 := blk_frozen BK134.out 1
           go_wp2
           go_ret
           exact ⟨by first | rfl | (simp [errW_none, errW_some] <;> rfl) | (simp [*, errW_none, errW_some] <;> rfl), by repeat (first | (with_reducible first | exact HB.out | apply below_alloc | apply pw_below_drewN | apply below_drew1 | refine below_set ?_ GE133.out | refine below_set ?_ GE134.out | refine below_set ?_ GE139.out | refine below_set ?_ GE144.out) | exact HB.out)⟩
        ·
         replace c122 := Bool.eq_false_iff.mpr c122
         subst c122
         have H1 : (if (false == false) = true then ((headgatelaw03_awake.f k).bind fun t150 => (some t150)) else (some false)) = some r := by rw [if_neg (show ¬ (false = true) by decide)] at H; exact H
         clear H
         have H := H1
         clear H1
         (try simp only [beq_true, beq_false, Bool.true_beq, Bool.false_beq, Bool.not_true, Bool.not_false, Bool.not_not, Bool.not_eq_true'] at c40b0 c40b1 c40b2)
         by_cases c170 : (false == false) = true
         ·
          rw [if_pos c170] at H
          have c170b0 : (false == false) = true := c170
          (try (have c170b1 : decide (false = false) = true := by first | (simp; done) | (simp at c170; done) | simpa using c170))
          (try (have c170b2 : (false == false) = true := by first | (simp; done) | (simp at c170; done) | simpa using c170))
          clear c170
          replace H := Option.bind_eq_some_iff.mp H
          obtain ⟨t150, A1710, H⟩ := H
          replace H : (some t150) = some r := H
          have A171 := Aside0.mk A1710
          clear A1710
          obtain rfl := Option.some.inj H
          have hnb172 := NB139_133.out
          have hnc172 := NB133_139.out
          have hnb173 := NB139_134.out
          have hnc173 := NB134_139.out
          have hnb174 := NB139_144.out
          have hnc174 := NB144_139.out
          have hcz175_0 : w25.cell? ⟨gb139, 0, none⟩ = some (.int .i64 t135) := (blk_cell BK139.out 0).trans rfl
          have hcz175_1 : w25.cell? ⟨gb139, 1, none⟩ = some (.int .i64 t136) := (blk_cell BK139.out 1).trans rfl
          have hfz175_0 := blk_frozen BK139.out 0
          have hfz175_1 := blk_frozen BK139.out 1
          have hnb176 := NB144_133.out
          have hnc176 := NB133_144.out
          have hnb177 := NB144_134.out
          have hnc177 := NB134_144.out
          have hcz178_0 : w25.cell? ⟨gb144, 0, none⟩ = some (.int .i64 0) := (blk_cell BK144.out 0).trans rfl
          have hcz178_1 : w25.cell? ⟨gb144, 1, none⟩ = some (.int .i64 0) := (blk_cell BK144.out 1).trans rfl
          have hfz178_0 := blk_frozen BK144.out 0
          have hfz178_1 := blk_frozen BK144.out 1
          have hnb179 := NB133_134.out
          have hnc179 := NB134_133.out
          have hcz180_0 : w25.cell? ⟨gb133, 0, none⟩ = some (.int .i64 t128) := (blk_cell BK133.out 0).trans rfl
          have hcz180_1 : w25.cell? ⟨gb133, 1, none⟩ = some (.int .i64 t129) := (blk_cell BK133.out 1).trans rfl
          have hfz180_0 := blk_frozen BK133.out 0
          have hfz180_1 := blk_frozen BK133.out 1
          have hcz181_0 : w25.cell? ⟨gb134, 0, none⟩ = some (.int .i64 t130) := (blk_cell BK134.out 0).trans rfl
          have hcz181_1 : w25.cell? ⟨gb134, 1, none⟩ = some (.int .i64 t131) := (blk_cell BK134.out 1).trans rfl
          have hfz181_0 := blk_frozen BK134.out 0
          have hfz181_1 := blk_frozen BK134.out 1
          go_wp2_with (first | (go_at_call 11; (with_reducible refine (headgatelaw03_awake.calls k  t150 _ A171.out).mono ?_); rintro e w182 ⟨rfl, hb⟩; have n0_ := Aside0.mk (blk_below (g := gb133) (o := .cells #[.int .i64 t128, .int .i64 t129] 23 (0, 0)) (by (iterate 2 ((with_reducible repeat (first | refine blk_drewN ?_ _ | refine blk_drew ?_ | refine blk_alloc ?_ _)); refine blk_far ?_ NB133_144.out _)); (with_reducible repeat (first | refine blk_drewN ?_ _ | refine blk_drew ?_ | refine blk_alloc ?_ _)); exact BK133.out) hb); have n1_ := Aside0.mk (blk_below (g := gb134) (o := .cells #[.int .i64 t130, .int .i64 t131] 23 (0, 0)) (by (iterate 2 ((with_reducible repeat (first | refine blk_drewN ?_ _ | refine blk_drew ?_ | refine blk_alloc ?_ _)); refine blk_far ?_ NB134_144.out _)); (with_reducible repeat (first | refine blk_drewN ?_ _ | refine blk_drew ?_ | refine blk_alloc ?_ _)); exact BK134.out) hb); have n2_ := Aside0.mk (blk_below (g := gb139) (o := .cells #[.int .i64 t135, .int .i64 t136] 23 (0, 0)) (by (iterate 2 ((with_reducible repeat (first | refine blk_drewN ?_ _ | refine blk_drew ?_ | refine blk_alloc ?_ _)); refine blk_far ?_ NB139_144.out _)); (with_reducible repeat (first | refine blk_drewN ?_ _ | refine blk_drew ?_ | refine blk_alloc ?_ _)); exact BK139.out) hb); have n3_ := Aside0.mk (blk_below (g := gb144) (o := .cells #[.int .i64 t140, .int .i64 t141] 23 (0, 0)) (by (with_reducible repeat (first | refine blk_drewN ?_ _ | refine blk_drew ?_ | refine blk_alloc ?_ _)); refine blk_put (cs := #[.int .i64 t140, .int .i64 0]) ?_ 1 _ rfl; (with_reducible repeat (first | refine blk_drewN ?_ _ | refine blk_drew ?_ | refine blk_alloc ?_ _)); refine blk_put (cs := #[.int .i64 0, .int .i64 0]) ?_ 0 _ rfl; (with_reducible repeat (first | refine blk_drewN ?_ _ | refine blk_drew ?_ | refine blk_alloc ?_ _)); exact BK144.out) hb); have n4_ := Aside0.mk (below_step (by repeat (first | (with_reducible first | exact HB.out | apply below_alloc | apply pw_below_drewN | apply below_drew1 | refine below_set ?_ GE133.out | refine below_set ?_ GE134.out | refine below_set ?_ GE139.out | refine below_set ?_ GE144.out) | exact HB.out)) hb); clear BK133; clear BK134; clear BK139; clear BK144; clear HB; have BK133 := n0_; have BK134 := n1_; have BK139 := n2_; have BK144 := n3_; have HB := n4_; clear n0_ n1_ n2_ n3_ n4_; (try clear hb); (try clear hb2); (try clear hk); (try clear hi)))
          go_ret
          exact ⟨by first | rfl | (simp [errW_none, errW_some] <;> rfl) | (simp [*, errW_none, errW_some] <;> rfl), by repeat (first | (with_reducible first | exact HB.out | apply below_alloc | apply pw_below_drewN | apply below_drew1 | refine below_set ?_ GE133.out | refine below_set ?_ GE134.out | refine below_set ?_ GE139.out | refine below_set ?_ GE144.out) | exact HB.out)⟩
         ·
          rw [if_neg c170] at H
          have c170b0 : (false == false) = false := by first | (simp; done) | (simp at c170; done) | simpa using c170
          (try (have c170b1 : decide (false = false) = false := by first | (simp; done) | (simp at c170; done) | simpa using c170))
          (try (have c170b2 : (false == false) = false := by first | (simp; done) | (simp at c170; done) | simpa using c170))
          (try (have c170b3 : ¬ (false = false) := by first | (simp; done) | (simp at c170; done) | simpa using c170))
          clear c170
          obtain rfl := Option.some.inj H
          have hnb183 := NB139_133.out
          have hnc183 := NB133_139.out
          have hnb184 := NB139_134.out
          have hnc184 := NB134_139.out
          have hnb185 := NB139_144.out
          have hnc185 := NB144_139.out
          have hcz186_0 : w25.cell? ⟨gb139, 0, none⟩ = some (.int .i64 t135) := (blk_cell BK139.out 0).trans rfl
          have hcz186_1 : w25.cell? ⟨gb139, 1, none⟩ = some (.int .i64 t136) := (blk_cell BK139.out 1).trans rfl
          have hfz186_0 := blk_frozen BK139.out 0
          have hfz186_1 := blk_frozen BK139.out 1
          have hnb187 := NB144_133.out
          have hnc187 := NB133_144.out
          have hnb188 := NB144_134.out
          have hnc188 := NB134_144.out
          have hcz189_0 : w25.cell? ⟨gb144, 0, none⟩ = some (.int .i64 0) := (blk_cell BK144.out 0).trans rfl
          have hcz189_1 : w25.cell? ⟨gb144, 1, none⟩ = some (.int .i64 0) := (blk_cell BK144.out 1).trans rfl
          have hfz189_0 := blk_frozen BK144.out 0
          have hfz189_1 := blk_frozen BK144.out 1
          have hnb190 := NB133_134.out
          have hnc190 := NB134_133.out
          have hcz191_0 : w25.cell? ⟨gb133, 0, none⟩ = some (.int .i64 t128) := (blk_cell BK133.out 0).trans rfl
          have hcz191_1 : w25.cell? ⟨gb133, 1, none⟩ = some (.int .i64 t129) := (blk_cell BK133.out 1).trans rfl
          have hfz191_0 := blk_frozen BK133.out 0
          have hfz191_1 := blk_frozen BK133.out 1
          have hcz192_0 : w25.cell? ⟨gb134, 0, none⟩ = some (.int .i64 t130) := (blk_cell BK134.out 0).trans rfl
          have hcz192_1 : w25.cell? ⟨gb134, 1, none⟩ = some (.int .i64 t131) := (blk_cell BK134.out 1).trans rfl
          have hfz192_0 := blk_frozen BK134.out 0
          have hfz192_1 := blk_frozen BK134.out 1
          go_wp2
          go_ret
          exact ⟨by first | rfl | (simp [errW_none, errW_some] <;> rfl) | (simp [*, errW_none, errW_some] <;> rfl), by repeat (first | (with_reducible first | exact HB.out | apply below_alloc | apply pw_below_drewN | apply below_drew1 | refine below_set ?_ GE133.out | refine below_set ?_ GE134.out | refine below_set ?_ GE139.out | refine below_set ?_ GE144.out) | exact HB.out)⟩
      ·
       rw [if_neg c49] at H
       have c49b0 : decide (t132 ≤ t129) = false := decide_eq_false c49
       clear c49
       by_cases c193 : t137 = true
       ·
        subst c193
        have H1 : (if t135 ≤ t132 then (if ((decide (t132 ≤ t136)) == false) = true then ((headgatelaw03_awake.f k).bind fun t151 => (some t151)) else (some false)) else (if (false == false) = true then ((headgatelaw03_awake.f k).bind fun t152 => (some t152)) else (some false))) = some r := by rw [if_pos rfl] at H; exact H
        clear H
        have H := H1
        clear H1
        (try simp only [beq_true, beq_false, Bool.true_beq, Bool.false_beq, Bool.not_true, Bool.not_false, Bool.not_not, Bool.not_eq_true'] at c40b0 c40b1 c40b2)
        by_cases c194 : t135 ≤ t132
        ·
         rw [if_pos c194] at H
         have c194b0 : decide (t135 ≤ t132) = true := decide_eq_true c194
         clear c194
         by_cases c195 : ((decide (t132 ≤ t136)) == false) = true
         ·
          rw [if_pos c195] at H
          have c195b0 : ((decide (t132 ≤ t136)) == false) = true := c195
          (try (have c195b1 : decide ((decide (t132 ≤ t136)) = false) = true := by first | (simp; done) | (simp at c195; done) | simpa using c195))
          (try (have c195b2 : ((decide (t132 ≤ t136)) == false) = true := by first | (simp; done) | (simp at c195; done) | simpa using c195))
          clear c195
          replace H := Option.bind_eq_some_iff.mp H
          obtain ⟨t151, A1960, H⟩ := H
          replace H : (some t151) = some r := H
          have A196 := Aside0.mk A1960
          clear A1960
          obtain rfl := Option.some.inj H
          have hnb197 := NB139_133.out
          have hnc197 := NB133_139.out
          have hnb198 := NB139_134.out
          have hnc198 := NB134_139.out
          have hnb199 := NB139_144.out
          have hnc199 := NB144_139.out
          have hcz200_0 : w25.cell? ⟨gb139, 0, none⟩ = some (.int .i64 t135) := (blk_cell BK139.out 0).trans rfl
          have hcz200_1 : w25.cell? ⟨gb139, 1, none⟩ = some (.int .i64 t136) := (blk_cell BK139.out 1).trans rfl
          have hfz200_0 := blk_frozen BK139.out 0
          have hfz200_1 := blk_frozen BK139.out 1
          have hnb201 := NB144_133.out
          have hnc201 := NB133_144.out
          have hnb202 := NB144_134.out
          have hnc202 := NB134_144.out
          have hcz203_0 : w25.cell? ⟨gb144, 0, none⟩ = some (.int .i64 0) := (blk_cell BK144.out 0).trans rfl
          have hcz203_1 : w25.cell? ⟨gb144, 1, none⟩ = some (.int .i64 0) := (blk_cell BK144.out 1).trans rfl
          have hfz203_0 := blk_frozen BK144.out 0
          have hfz203_1 := blk_frozen BK144.out 1
          have hnb204 := NB133_134.out
          have hnc204 := NB134_133.out
          have hcz205_0 : w25.cell? ⟨gb133, 0, none⟩ = some (.int .i64 t128) := (blk_cell BK133.out 0).trans rfl
          have hcz205_1 : w25.cell? ⟨gb133, 1, none⟩ = some (.int .i64 t129) := (blk_cell BK133.out 1).trans rfl
          have hfz205_0 := blk_frozen BK133.out 0
          have hfz205_1 := blk_frozen BK133.out 1
          go_wp2_with (first | (go_at_call 11; (with_reducible refine (headgatelaw03_awake.calls k  t151 _ A196.out).mono ?_); rintro e w206 ⟨rfl, hb⟩; have n0_ := Aside0.mk (blk_below (g := gb133) (o := .cells #[.int .i64 t128, .int .i64 t129] 23 (0, 0)) (by (iterate 2 ((with_reducible repeat (first | refine blk_drewN ?_ _ | refine blk_drew ?_ | refine blk_alloc ?_ _)); refine blk_far ?_ NB133_144.out _)); (with_reducible repeat (first | refine blk_drewN ?_ _ | refine blk_drew ?_ | refine blk_alloc ?_ _)); exact BK133.out) hb); have n1_ := Aside0.mk (blk_below (g := gb134) (o := .cells #[.int .i64 t130, .int .i64 t131] 23 (0, 0)) (by (iterate 2 ((with_reducible repeat (first | refine blk_drewN ?_ _ | refine blk_drew ?_ | refine blk_alloc ?_ _)); refine blk_far ?_ NB134_144.out _)); (with_reducible repeat (first | refine blk_drewN ?_ _ | refine blk_drew ?_ | refine blk_alloc ?_ _)); exact BK134.out) hb); have n2_ := Aside0.mk (blk_below (g := gb139) (o := .cells #[.int .i64 t135, .int .i64 t136] 23 (0, 0)) (by (iterate 2 ((with_reducible repeat (first | refine blk_drewN ?_ _ | refine blk_drew ?_ | refine blk_alloc ?_ _)); refine blk_far ?_ NB139_144.out _)); (with_reducible repeat (first | refine blk_drewN ?_ _ | refine blk_drew ?_ | refine blk_alloc ?_ _)); exact BK139.out) hb); have n3_ := Aside0.mk (blk_below (g := gb144) (o := .cells #[.int .i64 t140, .int .i64 t141] 23 (0, 0)) (by (with_reducible repeat (first | refine blk_drewN ?_ _ | refine blk_drew ?_ | refine blk_alloc ?_ _)); refine blk_put (cs := #[.int .i64 t140, .int .i64 0]) ?_ 1 _ rfl; (with_reducible repeat (first | refine blk_drewN ?_ _ | refine blk_drew ?_ | refine blk_alloc ?_ _)); refine blk_put (cs := #[.int .i64 0, .int .i64 0]) ?_ 0 _ rfl; (with_reducible repeat (first | refine blk_drewN ?_ _ | refine blk_drew ?_ | refine blk_alloc ?_ _)); exact BK144.out) hb); have n4_ := Aside0.mk (below_step (by repeat (first | (with_reducible first | exact HB.out | apply below_alloc | apply pw_below_drewN | apply below_drew1 | refine below_set ?_ GE133.out | refine below_set ?_ GE134.out | refine below_set ?_ GE139.out | refine below_set ?_ GE144.out) | exact HB.out)) hb); clear BK133; clear BK134; clear BK139; clear BK144; clear HB; have BK133 := n0_; have BK134 := n1_; have BK139 := n2_; have BK144 := n3_; have HB := n4_; clear n0_ n1_ n2_ n3_ n4_; (try clear hb); (try clear hb2); (try clear hk); (try clear hi)))
          go_ret
          exact ⟨by first | rfl | (simp [errW_none, errW_some] <;> rfl) | (simp [*, errW_none, errW_some] <;> rfl), by repeat (first | (with_reducible first | exact HB.out | apply below_alloc | apply pw_below_drewN | apply below_drew1 | refine below_set ?_ GE133.out | refine below_set ?_ GE134.out | refine below_set ?_ GE139.out | refine below_set ?_ GE144.out) | exact HB.out)⟩
         ·
          rw [if_neg c195] at H
          have c195b0 : ((decide (t132 ≤ t136)) == false) = false := by first | (simp; done) | (simp at c195; done) | simpa using c195
          (try (have c195b1 : decide ((decide (t132 ≤ t136)) = false) = false := by first | (simp; done) | (simp at c195; done) | simpa using c195))
          (try (have c195b2 : ((decide (t132 ≤ t136)) == false) = false := by first | (simp; done) | (simp at c195; done) | simpa using c195))
          (try (have c195b3 : ¬ ((decide (t132 ≤ t136)) = false) := by first | (simp; done) | (simp at c195; done) | simpa using c195))
          clear c195
          obtain rfl := Option.some.inj H
          have hnb207 := NB139_133.out
          have hnc207 := NB133_139.out
          have hnb208 := NB139_134.out
          have hnc208 := NB134_139.out
          have hnb209 := NB139_144.out
          have hnc209 := NB144_139.out
          have hcz210_0 : w25.cell? ⟨gb139, 0, none⟩ = some (.int .i64 t135) := (blk_cell BK139.out 0).trans rfl
          have hcz210_1 : w25.cell? ⟨gb139, 1, none⟩ = some (.int .i64 t136) := (blk_cell BK139.out 1).trans rfl
          have hfz210_0 := blk_frozen BK139.out 0
          have hfz210_1 := blk_frozen BK139.out 1
          have hnb211 := NB144_133.out
          have hnc211 := NB133_144.out
          have hnb212 := NB144_134.out
          have hnc212 := NB134_144.out
          have hcz213_0 : w25.cell? ⟨gb144, 0, none⟩ = some (.int .i64 0) := (blk_cell BK144.out 0).trans rfl
          have hcz213_1 : w25.cell? ⟨gb144, 1, none⟩ = some (.int .i64 0) := (blk_cell BK144.out 1).trans rfl
          have hfz213_0 := blk_frozen BK144.out 0
          have hfz213_1 := blk_frozen BK144.out 1
          have hnb214 := NB133_134.out
          have hnc214 := NB134_133.out
          have hcz215_0 : w25.cell? ⟨gb133, 0, none⟩ = some (.int .i64 t128) := (blk_cell BK133.out 0).trans rfl
          have hcz215_1 : w25.cell? ⟨gb133, 1, none⟩ = some (.int .i64 t129) := (blk_cell BK133.out 1).trans rfl
          have hfz215_0 := blk_frozen BK133.out 0
          have hfz215_1 := blk_frozen BK133.out 1
          go_wp2
          go_ret
          exact ⟨by first | rfl | (simp [errW_none, errW_some] <;> rfl) | (simp [*, errW_none, errW_some] <;> rfl), by repeat (first | (with_reducible first | exact HB.out | apply below_alloc | apply pw_below_drewN | apply below_drew1 | refine below_set ?_ GE133.out | refine below_set ?_ GE134.out | refine below_set ?_ GE139.out | refine below_set ?_ GE144.out) | exact HB.out)⟩
        ·
         rw [if_neg c194] at H
         have c194b0 : decide (t135 ≤ t132) = false := decide_eq_false c194
         clear c194
         by_cases c216 : (false == false) = true
         ·
          rw [if_pos c216] at H
          have c216b0 : (false == false) = true := c216
          (try (have c216b1 : decide (false = false) = true := by first | (simp; done) | (simp at c216; done) | simpa using c216))
          (try (have c216b2 : (false == false) = true := by first | (simp; done) | (simp at c216; done) | simpa using c216))
          clear c216
          replace H := Option.bind_eq_some_iff.mp H
          obtain ⟨t152, A2170, H⟩ := H
          replace H : (some t152) = some r := H
          have A217 := Aside0.mk A2170
          clear A2170
          obtain rfl := Option.some.inj H
          have hnb218 := NB139_133.out
          have hnc218 := NB133_139.out
          have hnb219 := NB139_134.out
          have hnc219 := NB134_139.out
          have hnb220 := NB139_144.out
          have hnc220 := NB144_139.out
          have hcz221_0 : w25.cell? ⟨gb139, 0, none⟩ = some (.int .i64 t135) := (blk_cell BK139.out 0).trans rfl
          have hcz221_1 : w25.cell? ⟨gb139, 1, none⟩ = some (.int .i64 t136) := (blk_cell BK139.out 1).trans rfl
          have hfz221_0 := blk_frozen BK139.out 0
          have hfz221_1 := blk_frozen BK139.out 1
          have hnb222 := NB144_133.out
          have hnc222 := NB133_144.out
          have hnb223 := NB144_134.out
          have hnc223 := NB134_144.out
          have hcz224_0 : w25.cell? ⟨gb144, 0, none⟩ = some (.int .i64 0) := (blk_cell BK144.out 0).trans rfl
          have hcz224_1 : w25.cell? ⟨gb144, 1, none⟩ = some (.int .i64 0) := (blk_cell BK144.out 1).trans rfl
          have hfz224_0 := blk_frozen BK144.out 0
          have hfz224_1 := blk_frozen BK144.out 1
          have hnb225 := NB133_134.out
          have hnc225 := NB134_133.out
          have hcz226_0 : w25.cell? ⟨gb133, 0, none⟩ = some (.int .i64 t128) := (blk_cell BK133.out 0).trans rfl
          have hcz226_1 : w25.cell? ⟨gb133, 1, none⟩ = some (.int .i64 t129) := (blk_cell BK133.out 1).trans rfl
          have hfz226_0 := blk_frozen BK133.out 0
          have hfz226_1 := blk_frozen BK133.out 1
          go_wp2_with (first | (go_at_call 11; (with_reducible refine (headgatelaw03_awake.calls k  t152 _ A217.out).mono ?_); rintro e w227 ⟨rfl, hb⟩; have n0_ := Aside0.mk (blk_below (g := gb133) (o := .cells #[.int .i64 t128, .int .i64 t129] 23 (0, 0)) (by (iterate 2 ((with_reducible repeat (first | refine blk_drewN ?_ _ | refine blk_drew ?_ | refine blk_alloc ?_ _)); refine blk_far ?_ NB133_144.out _)); (with_reducible repeat (first | refine blk_drewN ?_ _ | refine blk_drew ?_ | refine blk_alloc ?_ _)); exact BK133.out) hb); have n1_ := Aside0.mk (blk_below (g := gb134) (o := .cells #[.int .i64 t130, .int .i64 t131] 23 (0, 0)) (by (iterate 2 ((with_reducible repeat (first | refine blk_drewN ?_ _ | refine blk_drew ?_ | refine blk_alloc ?_ _)); refine blk_far ?_ NB134_144.out _)); (with_reducible repeat (first | refine blk_drewN ?_ _ | refine blk_drew ?_ | refine blk_alloc ?_ _)); exact BK134.out) hb); have n2_ := Aside0.mk (blk_below (g := gb139) (o := .cells #[.int .i64 t135, .int .i64 t136] 23 (0, 0)) (by (iterate 2 ((with_reducible repeat (first | refine blk_drewN ?_ _ | refine blk_drew ?_ | refine blk_alloc ?_ _)); refine blk_far ?_ NB139_144.out _)); (with_reducible repeat (first | refine blk_drewN ?_ _ | refine blk_drew ?_ | refine blk_alloc ?_ _)); exact BK139.out) hb); have n3_ := Aside0.mk (blk_below (g := gb144) (o := .cells #[.int .i64 t140, .int .i64 t141] 23 (0, 0)) (by (with_reducible repeat (first | refine blk_drewN ?_ _ | refine blk_drew ?_ | refine blk_alloc ?_ _)); refine blk_put (cs := #[.int .i64 t140, .int .i64 0]) ?_ 1 _ rfl; (with_reducible repeat (first | refine blk_drewN ?_ _ | refine blk_drew ?_ | refine blk_alloc ?_ _)); refine blk_put (cs := #[.int .i64 0, .int .i64 0]) ?_ 0 _ rfl; (with_reducible repeat (first | refine blk_drewN ?_ _ | refine blk_drew ?_ | refine blk_alloc ?_ _)); exact BK144.out) hb); have n4_ := Aside0.mk (below_step (by repeat (first | (with_reducible first | exact HB.out | apply below_alloc | apply pw_below_drewN | apply below_drew1 | refine below_set ?_ GE133.out | refine below_set ?_ GE134.out | refine below_set ?_ GE139.out | refine below_set ?_ GE144.out) | exact HB.out)) hb); clear BK133; clear BK134; clear BK139; clear BK144; clear HB; have BK133 := n0_; have BK134 := n1_; have BK139 := n2_; have BK144 := n3_; have HB := n4_; clear n0_ n1_ n2_ n3_ n4_; (try clear hb); (try clear hb2); (try clear hk); (try clear hi)))
          go_ret
          exact ⟨by first | rfl | (simp [errW_none, errW_some] <;> rfl) | (simp [*, errW_none, errW_some] <;> rfl), by repeat (first | (with_reducible first | exact HB.out | apply below_alloc | apply pw_below_drewN | apply below_drew1 | refine below_set ?_ GE133.out | refine below_set ?_ GE134.out | refine below_set ?_ GE139.out | refine below_set ?_ GE144.out) | exact HB.out)⟩
         ·
          rw [if_neg c216] at H
          have c216b0 : (false == false) = false := by first | (simp; done) | (simp at c216; done) | simpa using c216
          (try (have c216b1 : decide (false = false) = false := by first | (simp; done) | (simp at c216; done) | simpa using c216))
          (try (have c216b2 : (false == false) = false := by first | (simp; done) | (simp at c216; done) | simpa using c216))
          (try (have c216b3 : ¬ (false = false) := by first | (simp; done) | (simp at c216; done) | simpa using c216))
          clear c216
          obtain rfl := Option.some.inj H
          have hnb228 := NB139_133.out
          have hnc228 := NB133_139.out
          have hnb229 := NB139_134.out
          have hnc229 := NB134_139.out
          have hnb230 := NB139_144.out
          have hnc230 := NB144_139.out
          have hcz231_0 : w25.cell? ⟨gb139, 0, none⟩ = some (.int .i64 t135) := (blk_cell BK139.out 0).trans rfl
          have hcz231_1 : w25.cell? ⟨gb139, 1, none⟩ = some (.int .i64 t136) := (blk_cell BK139.out 1).trans rfl
          have hfz231_0 := blk_frozen BK139.out 0
          have hfz231_1 := blk_frozen BK139.out 1
          have hnb232 := NB144_133.out
          have hnc232 := NB133_144.out
          have hnb233 := NB144_134.out
          have hnc233 := NB134_144.out
          have hcz234_0 : w25.cell? ⟨gb144, 0, none⟩ = some (.int .i64 0) := (blk_cell BK144.out 0).trans rfl
          have hcz234_1 : w25.cell? ⟨gb144, 1, none⟩ = some (.int .i64 0) := (blk_cell BK144.out 1).trans rfl
          have hfz234_0 := blk_frozen BK144.out 0
          have hfz234_1 := blk_frozen BK144.out 1
          have hnb235 := NB133_134.out
          have hnc235 := NB134_133.out
          have hcz236_0 : w25.cell? ⟨gb133, 0, none⟩ = some (.int .i64 t128) := (blk_cell BK133.out 0).trans rfl
          have hcz236_1 : w25.cell? ⟨gb133, 1, none⟩ = some (.int .i64 t129) := (blk_cell BK133.out 1).trans rfl
          have hfz236_0 := blk_frozen BK133.out 0
          have hfz236_1 := blk_frozen BK133.out 1
          go_wp2
          go_ret
          exact ⟨by first | rfl | (simp [errW_none, errW_some] <;> rfl) | (simp [*, errW_none, errW_some] <;> rfl), by repeat (first | (with_reducible first | exact HB.out | apply below_alloc | apply pw_below_drewN | apply below_drew1 | refine below_set ?_ GE133.out | refine below_set ?_ GE134.out | refine below_set ?_ GE139.out | refine below_set ?_ GE144.out) | exact HB.out)⟩
       ·
        replace c193 := Bool.eq_false_iff.mpr c193
        subst c193
        have H1 : (if (false == false) = true then ((headgatelaw03_awake.f k).bind fun t153 => (some t153)) else (some false)) = some r := by rw [if_neg (show ¬ (false = true) by decide)] at H; exact H
        clear H
        have H := H1
        clear H1
        (try simp only [beq_true, beq_false, Bool.true_beq, Bool.false_beq, Bool.not_true, Bool.not_false, Bool.not_not, Bool.not_eq_true'] at c40b0 c40b1 c40b2)
        by_cases c237 : (false == false) = true
        ·
         rw [if_pos c237] at H
         have c237b0 : (false == false) = true := c237
         (try (have c237b1 : decide (false = false) = true := by first | (simp; done) | (simp at c237; done) | simpa using c237))
         (try (have c237b2 : (false == false) = true := by first | (simp; done) | (simp at c237; done) | simpa using c237))
         clear c237
         replace H := Option.bind_eq_some_iff.mp H
         obtain ⟨t153, A2380, H⟩ := H
         replace H : (some t153) = some r := H
         have A238 := Aside0.mk A2380
         clear A2380
         obtain rfl := Option.some.inj H
         have hnb239 := NB139_133.out
         have hnc239 := NB133_139.out
         have hnb240 := NB139_134.out
         have hnc240 := NB134_139.out
         have hnb241 := NB139_144.out
         have hnc241 := NB144_139.out
         have hcz242_0 : w25.cell? ⟨gb139, 0, none⟩ = some (.int .i64 t135) := (blk_cell BK139.out 0).trans rfl
         have hcz242_1 : w25.cell? ⟨gb139, 1, none⟩ = some (.int .i64 t136) := (blk_cell BK139.out 1).trans rfl
         have hfz242_0 := blk_frozen BK139.out 0
         have hfz242_1 := blk_frozen BK139.out 1
         have hnb243 := NB144_133.out
         have hnc243 := NB133_144.out
         have hnb244 := NB144_134.out
         have hnc244 := NB134_144.out
         have hcz245_0 : w25.cell? ⟨gb144, 0, none⟩ = some (.int .i64 0) := (blk_cell BK144.out 0).trans rfl
         have hcz245_1 : w25.cell? ⟨gb144, 1, none⟩ = some (.int .i64 0) := (blk_cell BK144.out 1).trans rfl
         have hfz245_0 := blk_frozen BK144.out 0
         have hfz245_1 := blk_frozen BK144.out 1
         have hnb246 := NB133_134.out
         have hnc246 := NB134_133.out
         have hcz247_0 : w25.cell? ⟨gb133, 0, none⟩ = some (.int .i64 t128) := (blk_cell BK133.out 0).trans rfl
         have hcz247_1 : w25.cell? ⟨gb133, 1, none⟩ = some (.int .i64 t129) := (blk_cell BK133.out 1).trans rfl
         have hfz247_0 := blk_frozen BK133.out 0
         have hfz247_1 := blk_frozen BK133.out 1
         go_wp2_with (first | (go_at_call 11; (with_reducible refine (headgatelaw03_awake.calls k  t153 _ A238.out).mono ?_); rintro e w248 ⟨rfl, hb⟩; have n0_ := Aside0.mk (blk_below (g := gb133) (o := .cells #[.int .i64 t128, .int .i64 t129] 23 (0, 0)) (by (iterate 2 ((with_reducible repeat (first | refine blk_drewN ?_ _ | refine blk_drew ?_ | refine blk_alloc ?_ _)); refine blk_far ?_ NB133_144.out _)); (with_reducible repeat (first | refine blk_drewN ?_ _ | refine blk_drew ?_ | refine blk_alloc ?_ _)); exact BK133.out) hb); have n1_ := Aside0.mk (blk_below (g := gb134) (o := .cells #[.int .i64 t130, .int .i64 t131] 23 (0, 0)) (by (iterate 2 ((with_reducible repeat (first | refine blk_drewN ?_ _ | refine blk_drew ?_ | refine blk_alloc ?_ _)); refine blk_far ?_ NB134_144.out _)); (with_reducible repeat (first | refine blk_drewN ?_ _ | refine blk_drew ?_ | refine blk_alloc ?_ _)); exact BK134.out) hb); have n2_ := Aside0.mk (blk_below (g := gb139) (o := .cells #[.int .i64 t135, .int .i64 t136] 23 (0, 0)) (by (iterate 2 ((with_reducible repeat (first | refine blk_drewN ?_ _ | refine blk_drew ?_ | refine blk_alloc ?_ _)); refine blk_far ?_ NB139_144.out _)); (with_reducible repeat (first | refine blk_drewN ?_ _ | refine blk_drew ?_ | refine blk_alloc ?_ _)); exact BK139.out) hb); have n3_ := Aside0.mk (blk_below (g := gb144) (o := .cells #[.int .i64 t140, .int .i64 t141] 23 (0, 0)) (by (with_reducible repeat (first | refine blk_drewN ?_ _ | refine blk_drew ?_ | refine blk_alloc ?_ _)); refine blk_put (cs := #[.int .i64 t140, .int .i64 0]) ?_ 1 _ rfl; (with_reducible repeat (first | refine blk_drewN ?_ _ | refine blk_drew ?_ | refine blk_alloc ?_ _)); refine blk_put (cs := #[.int .i64 0, .int .i64 0]) ?_ 0 _ rfl; (with_reducible repeat (first | refine blk_drewN ?_ _ | refine blk_drew ?_ | refine blk_alloc ?_ _)); exact BK144.out) hb); have n4_ := Aside0.mk (below_step (by repeat (first | (with_reducible first | exact HB.out | apply below_alloc | apply pw_below_drewN | apply below_drew1 | refine below_set ?_ GE133.out | refine below_set ?_ GE134.out | refine below_set ?_ GE139.out | refine below_set ?_ GE144.out) | exact HB.out)) hb); clear BK133; clear BK134; clear BK139; clear BK144; clear HB; have BK133 := n0_; have BK134 := n1_; have BK139 := n2_; have BK144 := n3_; have HB := n4_; clear n0_ n1_ n2_ n3_ n4_; (try clear hb); (try clear hb2); (try clear hk); (try clear hi)))
         go_ret
         exact ⟨by first | rfl | (simp [errW_none, errW_some] <;> rfl) | (simp [*, errW_none, errW_some] <;> rfl), by repeat (first | (with_reducible first | exact HB.out | apply below_alloc | apply pw_below_drewN | apply below_drew1 | refine below_set ?_ GE133.out | refine below_set ?_ GE134.out | refine below_set ?_ GE139.out | refine below_set ?_ GE144.out) | exact HB.out)⟩
        ·
         rw [if_neg c237] at H
         have c237b0 : (false == false) = false := by first | (simp; done) | (simp at c237; done) | simpa using c237
         (try (have c237b1 : decide (false = false) = false := by first | (simp; done) | (simp at c237; done) | simpa using c237))
         (try (have c237b2 : (false == false) = false := by first | (simp; done) | (simp at c237; done) | simpa using c237))
         (try (have c237b3 : ¬ (false = false) := by first | (simp; done) | (simp at c237; done) | simpa using c237))
         clear c237
         obtain rfl := Option.some.inj H
         have hnb249 := NB139_133.out
         have hnc249 := NB133_139.out
         have hnb250 := NB139_134.out
         have hnc250 := NB134_139.out
         have hnb251 := NB139_144.out
         have hnc251 := NB144_139.out
         have hcz252_0 : w25.cell? ⟨gb139, 0, none⟩ = some (.int .i64 t135) := (blk_cell BK139.out 0).trans rfl
         have hcz252_1 : w25.cell? ⟨gb139, 1, none⟩ = some (.int .i64 t136) := (blk_cell BK139.out 1).trans rfl
         have hfz252_0 := blk_frozen BK139.out 0
         have hfz252_1 := blk_frozen BK139.out 1
         have hnb253 := NB144_133.out
         have hnc253 := NB133_144.out
         have hnb254 := NB144_134.out
         have hnc254 := NB134_144.out
         have hcz255_0 : w25.cell? ⟨gb144, 0, none⟩ = some (.int .i64 0) := (blk_cell BK144.out 0).trans rfl
         have hcz255_1 : w25.cell? ⟨gb144, 1, none⟩ = some (.int .i64 0) := (blk_cell BK144.out 1).trans rfl
         have hfz255_0 := blk_frozen BK144.out 0
         have hfz255_1 := blk_frozen BK144.out 1
         have hnb256 := NB133_134.out
         have hnc256 := NB134_133.out
         have hcz257_0 : w25.cell? ⟨gb133, 0, none⟩ = some (.int .i64 t128) := (blk_cell BK133.out 0).trans rfl
         have hcz257_1 : w25.cell? ⟨gb133, 1, none⟩ = some (.int .i64 t129) := (blk_cell BK133.out 1).trans rfl
         have hfz257_0 := blk_frozen BK133.out 0
         have hfz257_1 := blk_frozen BK133.out 1
         go_wp2
         go_ret
         exact ⟨by first | rfl | (simp [errW_none, errW_some] <;> rfl) | (simp [*, errW_none, errW_some] <;> rfl), by repeat (first | (with_reducible first | exact HB.out | apply below_alloc | apply pw_below_drewN | apply below_drew1 | refine below_set ?_ GE133.out | refine below_set ?_ GE134.out | refine below_set ?_ GE139.out | refine below_set ?_ GE144.out) | exact HB.out)⟩
     ·
      rw [if_neg c48] at H
      have c48b0 : decide (t128 ≤ t132) = false := decide_eq_false c48
      clear c48
      by_cases c258 : t137 = true
      ·
       subst c258
       have H1 : (if t135 ≤ t132 then (if ((decide (t132 ≤ t136)) == false) = true then ((headgatelaw03_awake.f k).bind fun t154 => (some t154)) else (some false)) else (if (false == false) = true then ((headgatelaw03_awake.f k).bind fun t155 => (some t155)) else (some false))) = some r := by rw [if_pos rfl] at H; exact H
       clear H
       have H := H1
       clear H1
       (try simp only [beq_true, beq_false, Bool.true_beq, Bool.false_beq, Bool.not_true, Bool.not_false, Bool.not_not, Bool.not_eq_true'] at c40b0 c40b1 c40b2)
       by_cases c259 : t135 ≤ t132
       ·
        rw [if_pos c259] at H
        have c259b0 : decide (t135 ≤ t132) = true := decide_eq_true c259
        clear c259
        by_cases c260 : ((decide (t132 ≤ t136)) == false) = true
        ·
         rw [if_pos c260] at H
         have c260b0 : ((decide (t132 ≤ t136)) == false) = true := c260
         (try (have c260b1 : decide ((decide (t132 ≤ t136)) = false) = true := by first | (simp; done) | (simp at c260; done) | simpa using c260))
         (try (have c260b2 : ((decide (t132 ≤ t136)) == false) = true := by first | (simp; done) | (simp at c260; done) | simpa using c260))
         clear c260
         replace H := Option.bind_eq_some_iff.mp H
         obtain ⟨t154, A2610, H⟩ := H
         replace H : (some t154) = some r := H
         have A261 := Aside0.mk A2610
         clear A2610
         obtain rfl := Option.some.inj H
         have hnb262 := NB139_133.out
         have hnc262 := NB133_139.out
         have hnb263 := NB139_134.out
         have hnc263 := NB134_139.out
         have hnb264 := NB139_144.out
         have hnc264 := NB144_139.out
         have hcz265_0 : w25.cell? ⟨gb139, 0, none⟩ = some (.int .i64 t135) := (blk_cell BK139.out 0).trans rfl
         have hcz265_1 : w25.cell? ⟨gb139, 1, none⟩ = some (.int .i64 t136) := (blk_cell BK139.out 1).trans rfl
         have hfz265_0 := blk_frozen BK139.out 0
         have hfz265_1 := blk_frozen BK139.out 1
         have hnb266 := NB144_133.out
         have hnc266 := NB133_144.out
         have hnb267 := NB144_134.out
         have hnc267 := NB134_144.out
         have hcz268_0 : w25.cell? ⟨gb144, 0, none⟩ = some (.int .i64 0) := (blk_cell BK144.out 0).trans rfl
         have hcz268_1 : w25.cell? ⟨gb144, 1, none⟩ = some (.int .i64 0) := (blk_cell BK144.out 1).trans rfl
         have hfz268_0 := blk_frozen BK144.out 0
         have hfz268_1 := blk_frozen BK144.out 1
         have hnb269 := NB133_134.out
         have hnc269 := NB134_133.out
         have hcz270_0 : w25.cell? ⟨gb133, 0, none⟩ = some (.int .i64 t128) := (blk_cell BK133.out 0).trans rfl
         have hcz270_1 : w25.cell? ⟨gb133, 1, none⟩ = some (.int .i64 t129) := (blk_cell BK133.out 1).trans rfl
         have hfz270_0 := blk_frozen BK133.out 0
         have hfz270_1 := blk_frozen BK133.out 1
         go_wp2_with (first | (go_at_call 11; (with_reducible refine (headgatelaw03_awake.calls k  t154 _ A261.out).mono ?_); rintro e w271 ⟨rfl, hb⟩; have n0_ := Aside0.mk (blk_below (g := gb133) (o := .cells #[.int .i64 t128, .int .i64 t129] 23 (0, 0)) (by (iterate 2 ((with_reducible repeat (first | refine blk_drewN ?_ _ | refine blk_drew ?_ | refine blk_alloc ?_ _)); refine blk_far ?_ NB133_144.out _)); (with_reducible repeat (first | refine blk_drewN ?_ _ | refine blk_drew ?_ | refine blk_alloc ?_ _)); exact BK133.out) hb); have n1_ := Aside0.mk (blk_below (g := gb134) (o := .cells #[.int .i64 t130, .int .i64 t131] 23 (0, 0)) (by (iterate 2 ((with_reducible repeat (first | refine blk_drewN ?_ _ | refine blk_drew ?_ | refine blk_alloc ?_ _)); refine blk_far ?_ NB134_144.out _)); (with_reducible repeat (first | refine blk_drewN ?_ _ | refine blk_drew ?_ | refine blk_alloc ?_ _)); exact BK134.out) hb); have n2_ := Aside0.mk (blk_below (g := gb139) (o := .cells #[.int .i64 t135, .int .i64 t136] 23 (0, 0)) (by (iterate 2 ((with_reducible repeat (first | refine blk_drewN ?_ _ | refine blk_drew ?_ | refine blk_alloc ?_ _)); refine blk_far ?_ NB139_144.out _)); (with_reducible repeat (first | refine blk_drewN ?_ _ | refine blk_drew ?_ | refine blk_alloc ?_ _)); exact BK139.out) hb); have n3_ := Aside0.mk (blk_below (g := gb144) (o := .cells #[.int .i64 t140, .int .i64 t141] 23 (0, 0)) (by (with_reducible repeat (first | refine blk_drewN ?_ _ | refine blk_drew ?_ | refine blk_alloc ?_ _)); refine blk_put (cs := #[.int .i64 t140, .int .i64 0]) ?_ 1 _ rfl; (with_reducible repeat (first | refine blk_drewN ?_ _ | refine blk_drew ?_ | refine blk_alloc ?_ _)); refine blk_put (cs := #[.int .i64 0, .int .i64 0]) ?_ 0 _ rfl; (with_reducible repeat (first | refine blk_drewN ?_ _ | refine blk_drew ?_ | refine blk_alloc ?_ _)); exact BK144.out) hb); have n4_ := Aside0.mk (below_step (by repeat (first | (with_reducible first | exact HB.out | apply below_alloc | apply pw_below_drewN | apply below_drew1 | refine below_set ?_ GE133.out | refine below_set ?_ GE134.out | refine below_set ?_ GE139.out | refine below_set ?_ GE144.out) | exact HB.out)) hb); clear BK133; clear BK134; clear BK139; clear BK144; clear HB; have BK133 := n0_; have BK134 := n1_; have BK139 := n2_; have BK144 := n3_; have HB := n4_; clear n0_ n1_ n2_ n3_ n4_; (try clear hb); (try clear hb2); (try clear hk); (try clear hi)))
         go_ret
         exact ⟨by first | rfl | (simp [errW_none, errW_some] <;> rfl) | (simp [*, errW_none, errW_some] <;> rfl), by repeat (first | (with_reducible first | exact HB.out | apply below_alloc | apply pw_below_drewN | apply below_drew1 | refine below_set ?_ GE133.out | refine below_set ?_ GE134.out | refine below_set ?_ GE139.out | refine below_set ?_ GE144.out) | exact HB.out)⟩
        ·
         rw [if_neg c260] at H
         have c260b0 : ((decide (t132 ≤ t136)) == false) = false := by first | (simp; done) | (simp at c260; done) | simpa using c260
         (try (have c260b1 : decide ((decide (t132 ≤ t136)) = false) = false := by first | (simp; done) | (simp at c260; done) | simpa using c260))
         (try (have c260b2 : ((decide (t132 ≤ t136)) == false) = false := by first | (simp; done) | (simp at c260; done) | simpa using c260))
         (try (have c260b3 : ¬ ((decide (t132 ≤ t136)) = false) := by first | (simp; done) | (simp at c260; done) | simpa using c260))
         clear c260
         obtain rfl := Option.some.inj H
         have hnb272 := NB139_133.out
         have hnc272 := NB133_139.out
         have hnb273 := NB139_134.out
         have hnc273 := NB134_139.out
         have hnb274 := NB139_144.out
         have hnc274 := NB144_139.out
         have hcz275_0 : w25.cell? ⟨gb139, 0, none⟩ = some (.int .i64 t135) := (blk_cell BK139.out 0).trans rfl
         have hcz275_1 : w25.cell? ⟨gb139, 1, none⟩ = some (.int .i64 t136) := (blk_cell BK139.out 1).trans rfl
         have hfz275_0 := blk_frozen BK139.out 0
         have hfz275_1 := blk_frozen BK139.out 1
         have hnb276 := NB144_133.out
         have hnc276 := NB133_144.out
         have hnb277 := NB144_134.out
         have hnc277 := NB134_144.out
         have hcz278_0 : w25.cell? ⟨gb144, 0, none⟩ = some (.int .i64 0) := (blk_cell BK144.out 0).trans rfl
         have hcz278_1 : w25.cell? ⟨gb144, 1, none⟩ = some (.int .i64 0) := (blk_cell BK144.out 1).trans rfl
         have hfz278_0 := blk_frozen BK144.out 0
         have hfz278_1 := blk_frozen BK144.out 1
         have hnb279 := NB133_134.out
         have hnc279 := NB134_133.out
         have hcz280_0 : w25.cell? ⟨gb133, 0, none⟩ = some (.int .i64 t128) := (blk_cell BK133.out 0).trans rfl
         have hcz280_1 : w25.cell? ⟨gb133, 1, none⟩ = some (.int .i64 t129) := (blk_cell BK133.out 1).trans rfl
         have hfz280_0 := blk_frozen BK133.out 0
         have hfz280_1 := blk_frozen BK133.out 1
         go_wp2
         go_ret
         exact ⟨by first | rfl | (simp [errW_none, errW_some] <;> rfl) | (simp [*, errW_none, errW_some] <;> rfl), by repeat (first | (with_reducible first | exact HB.out | apply below_alloc | apply pw_below_drewN | apply below_drew1 | refine below_set ?_ GE133.out | refine below_set ?_ GE134.out | refine below_set ?_ GE139.out | refine below_set ?_ GE144.out) | exact HB.out)⟩
       ·
        rw [if_neg c259] at H
        have c259b0 : decide (t135 ≤ t132) = false := decide_eq_false c259
        clear c259
        by_cases c281 : (false == false) = true
        ·
         rw [if_pos c281] at H
         have c281b0 : (false == false) = true := c281
         (try (have c281b1 : decide (false = false) = true := by first | (simp; done) | (simp at c281; done) | simpa using c281))
         (try (have c281b2 : (false == false) = true := by first | (simp; done) | (simp at c281; done) | simpa using c281))
         clear c281
         replace H := Option.bind_eq_some_iff.mp H
         obtain ⟨t155, A2820, H⟩ := H
         replace H : (some t155) = some r := H
         have A282 := Aside0.mk A2820
         clear A2820
         obtain rfl := Option.some.inj H
         have hnb283 := NB139_133.out
         have hnc283 := NB133_139.out
         have hnb284 := NB139_134.out
         have hnc284 := NB134_139.out
         have hnb285 := NB139_144.out
         have hnc285 := NB144_139.out
         have hcz286_0 : w25.cell? ⟨gb139, 0, none⟩ = some (.int .i64 t135) := (blk_cell BK139.out 0).trans rfl
         have hcz286_1 : w25.cell? ⟨gb139, 1, none⟩ = some (.int .i64 t136) := (blk_cell BK139.out 1).trans rfl
         have hfz286_0 := blk_frozen BK139.out 0
         have hfz286_1 := blk_frozen BK139.out 1
         have hnb287 := NB144_133.out
         have hnc287 := NB133_144.out
         have hnb288 := NB144_134.out
         have hnc288 := NB134_144.out
         have hcz289_0 : w25.cell? ⟨gb144, 0, none⟩ = some (.int .i64 0) := (blk_cell BK144.out 0).trans rfl
         have hcz289_1 : w25.cell? ⟨gb144, 1, none⟩ = some (.int .i64 0) := (blk_cell BK144.out 1).trans rfl
         have hfz289_0 := blk_frozen BK144.out 0
         have hfz289_1 := blk_frozen BK144.out 1
         have hnb290 := NB133_134.out
         have hnc290 := NB134_133.out
         have hcz291_0 : w25.cell? ⟨gb133, 0, none⟩ = some (.int .i64 t128) := (blk_cell BK133.out 0).trans rfl
         have hcz291_1 : w25.cell? ⟨gb133, 1, none⟩ = some (.int .i64 t129) := (blk_cell BK133.out 1).trans rfl
         have hfz291_0 := blk_frozen BK133.out 0
         have hfz291_1 := blk_frozen BK133.out 1
         go_wp2_with (first | (go_at_call 11; (with_reducible refine (headgatelaw03_awake.calls k  t155 _ A282.out).mono ?_); rintro e w292 ⟨rfl, hb⟩; have n0_ := Aside0.mk (blk_below (g := gb133) (o := .cells #[.int .i64 t128, .int .i64 t129] 23 (0, 0)) (by (iterate 2 ((with_reducible repeat (first | refine blk_drewN ?_ _ | refine blk_drew ?_ | refine blk_alloc ?_ _)); refine blk_far ?_ NB133_144.out _)); (with_reducible repeat (first | refine blk_drewN ?_ _ | refine blk_drew ?_ | refine blk_alloc ?_ _)); exact BK133.out) hb); have n1_ := Aside0.mk (blk_below (g := gb134) (o := .cells #[.int .i64 t130, .int .i64 t131] 23 (0, 0)) (by (iterate 2 ((with_reducible repeat (first | refine blk_drewN ?_ _ | refine blk_drew ?_ | refine blk_alloc ?_ _)); refine blk_far ?_ NB134_144.out _)); (with_reducible repeat (first | refine blk_drewN ?_ _ | refine blk_drew ?_ | refine blk_alloc ?_ _)); exact BK134.out) hb); have n2_ := Aside0.mk (blk_below (g := gb139) (o := .cells #[.int .i64 t135, .int .i64 t136] 23 (0, 0)) (by (iterate 2 ((with_reducible repeat (first | refine blk_drewN ?_ _ | refine blk_drew ?_ | refine blk_alloc ?_ _)); refine blk_far ?_ NB139_144.out _)); (with_reducible repeat (first | refine blk_drewN ?_ _ | refine blk_drew ?_ | refine blk_alloc ?_ _)); exact BK139.out) hb); have n3_ := Aside0.mk (blk_below (g := gb144) (o := .cells #[.int .i64 t140, .int .i64 t141] 23 (0, 0)) (by (with_reducible repeat (first | refine blk_drewN ?_ _ | refine blk_drew ?_ | refine blk_alloc ?_ _)); refine blk_put (cs := #[.int .i64 t140, .int .i64 0]) ?_ 1 _ rfl; (with_reducible repeat (first | refine blk_drewN ?_ _ | refine blk_drew ?_ | refine blk_alloc ?_ _)); refine blk_put (cs := #[.int .i64 0, .int .i64 0]) ?_ 0 _ rfl; (with_reducible repeat (first | refine blk_drewN ?_ _ | refine blk_drew ?_ | refine blk_alloc ?_ _)); exact BK144.out) hb); have n4_ := Aside0.mk (below_step (by repeat (first | (with_reducible first | exact HB.out | apply below_alloc | apply pw_below_drewN | apply below_drew1 | refine below_set ?_ GE133.out | refine below_set ?_ GE134.out | refine below_set ?_ GE139.out | refine below_set ?_ GE144.out) | exact HB.out)) hb); clear BK133; clear BK134; clear BK139; clear BK144; clear HB; have BK133 := n0_; have BK134 := n1_; have BK139 := n2_; have BK144 := n3_; have HB := n4_; clear n0_ n1_ n2_ n3_ n4_; (try clear hb); (try clear hb2); (try clear hk); (try clear hi)))
         go_ret
         exact ⟨by first | rfl | (simp [errW_none, errW_some] <;> rfl) | (simp [*, errW_none, errW_some] <;> rfl), by repeat (first | (with_reducible first | exact HB.out | apply below_alloc | apply pw_below_drewN | apply below_drew1 | refine below_set ?_ GE133.out | refine below_set ?_ GE134.out | refine below_set ?_ GE139.out | refine below_set ?_ GE144.out) | exact HB.out)⟩
        ·
         rw [if_neg c281] at H
         have c281b0 : (false == false) = false := by first | (simp; done) | (simp at c281; done) | simpa using c281
         (try (have c281b1 : decide (false = false) = false := by first | (simp; done) | (simp at c281; done) | simpa using c281))
         (try (have c281b2 : (false == false) = false := by first | (simp; done) | (simp at c281; done) | simpa using c281))
         (try (have c281b3 : ¬ (false = false) := by first | (simp; done) | (simp at c281; done) | simpa using c281))
         clear c281
         obtain rfl := Option.some.inj H
         have hnb293 := NB139_133.out
         have hnc293 := NB133_139.out
         have hnb294 := NB139_134.out
         have hnc294 := NB134_139.out
         have hnb295 := NB139_144.out
         have hnc295 := NB144_139.out
         have hcz296_0 : w25.cell? ⟨gb139, 0, none⟩ = some (.int .i64 t135) := (blk_cell BK139.out 0).trans rfl
         have hcz296_1 : w25.cell? ⟨gb139, 1, none⟩ = some (.int .i64 t136) := (blk_cell BK139.out 1).trans rfl
         have hfz296_0 := blk_frozen BK139.out 0
         have hfz296_1 := blk_frozen BK139.out 1
         have hnb297 := NB144_133.out
         have hnc297 := NB133_144.out
         have hnb298 := NB144_134.out
         have hnc298 := NB134_144.out
         have hcz299_0 : w25.cell? ⟨gb144, 0, none⟩ = some (.int .i64 0) := (blk_cell BK144.out 0).trans rfl
         have hcz299_1 : w25.cell? ⟨gb144, 1, none⟩ = some (.int .i64 0) := (blk_cell BK144.out 1).trans rfl
         have hfz299_0 := blk_frozen BK144.out 0
         have hfz299_1 := blk_frozen BK144.out 1
         have hnb300 := NB133_134.out
         have hnc300 := NB134_133.out
         have hcz301_0 : w25.cell? ⟨gb133, 0, none⟩ = some (.int .i64 t128) := (blk_cell BK133.out 0).trans rfl
         have hcz301_1 : w25.cell? ⟨gb133, 1, none⟩ = some (.int .i64 t129) := (blk_cell BK133.out 1).trans rfl
         have hfz301_0 := blk_frozen BK133.out 0
         have hfz301_1 := blk_frozen BK133.out 1
         go_wp2
         go_ret
         exact ⟨by first | rfl | (simp [errW_none, errW_some] <;> rfl) | (simp [*, errW_none, errW_some] <;> rfl), by repeat (first | (with_reducible first | exact HB.out | apply below_alloc | apply pw_below_drewN | apply below_drew1 | refine below_set ?_ GE133.out | refine below_set ?_ GE134.out | refine below_set ?_ GE139.out | refine below_set ?_ GE144.out) | exact HB.out)⟩
      ·
       replace c258 := Bool.eq_false_iff.mpr c258
       subst c258
       have H1 : (if (false == false) = true then ((headgatelaw03_awake.f k).bind fun t156 => (some t156)) else (some false)) = some r := by rw [if_neg (show ¬ (false = true) by decide)] at H; exact H
       clear H
       have H := H1
       clear H1
       (try simp only [beq_true, beq_false, Bool.true_beq, Bool.false_beq, Bool.not_true, Bool.not_false, Bool.not_not, Bool.not_eq_true'] at c40b0 c40b1 c40b2)
       by_cases c302 : (false == false) = true
       ·
        rw [if_pos c302] at H
        have c302b0 : (false == false) = true := c302
        (try (have c302b1 : decide (false = false) = true := by first | (simp; done) | (simp at c302; done) | simpa using c302))
        (try (have c302b2 : (false == false) = true := by first | (simp; done) | (simp at c302; done) | simpa using c302))
        clear c302
        replace H := Option.bind_eq_some_iff.mp H
        obtain ⟨t156, A3030, H⟩ := H
        replace H : (some t156) = some r := H
        have A303 := Aside0.mk A3030
        clear A3030
        obtain rfl := Option.some.inj H
        have hnb304 := NB139_133.out
        have hnc304 := NB133_139.out
        have hnb305 := NB139_134.out
        have hnc305 := NB134_139.out
        have hnb306 := NB139_144.out
        have hnc306 := NB144_139.out
        have hcz307_0 : w25.cell? ⟨gb139, 0, none⟩ = some (.int .i64 t135) := (blk_cell BK139.out 0).trans rfl
        have hcz307_1 : w25.cell? ⟨gb139, 1, none⟩ = some (.int .i64 t136) := (blk_cell BK139.out 1).trans rfl
        have hfz307_0 := blk_frozen BK139.out 0
        have hfz307_1 := blk_frozen BK139.out 1
        have hnb308 := NB144_133.out
        have hnc308 := NB133_144.out
        have hnb309 := NB144_134.out
        have hnc309 := NB134_144.out
        have hcz310_0 : w25.cell? ⟨gb144, 0, none⟩ = some (.int .i64 0) := (blk_cell BK144.out 0).trans rfl
        have hcz310_1 : w25.cell? ⟨gb144, 1, none⟩ = some (.int .i64 0) := (blk_cell BK144.out 1).trans rfl
        have hfz310_0 := blk_frozen BK144.out 0
        have hfz310_1 := blk_frozen BK144.out 1
        have hnb311 := NB133_134.out
        have hnc311 := NB134_133.out
        have hcz312_0 : w25.cell? ⟨gb133, 0, none⟩ = some (.int .i64 t128) := (blk_cell BK133.out 0).trans rfl
        have hcz312_1 : w25.cell? ⟨gb133, 1, none⟩ = some (.int .i64 t129) := (blk_cell BK133.out 1).trans rfl
        have hfz312_0 := blk_frozen BK133.out 0
        have hfz312_1 := blk_frozen BK133.out 1
        go_wp2_with (first | (go_at_call 11; (with_reducible refine (headgatelaw03_awake.calls k  t156 _ A303.out).mono ?_); rintro e w313 ⟨rfl, hb⟩; have n0_ := Aside0.mk (blk_below (g := gb133) (o := .cells #[.int .i64 t128, .int .i64 t129] 23 (0, 0)) (by (iterate 2 ((with_reducible repeat (first | refine blk_drewN ?_ _ | refine blk_drew ?_ | refine blk_alloc ?_ _)); refine blk_far ?_ NB133_144.out _)); (with_reducible repeat (first | refine blk_drewN ?_ _ | refine blk_drew ?_ | refine blk_alloc ?_ _)); exact BK133.out) hb); have n1_ := Aside0.mk (blk_below (g := gb134) (o := .cells #[.int .i64 t130, .int .i64 t131] 23 (0, 0)) (by (iterate 2 ((with_reducible repeat (first | refine blk_drewN ?_ _ | refine blk_drew ?_ | refine blk_alloc ?_ _)); refine blk_far ?_ NB134_144.out _)); (with_reducible repeat (first | refine blk_drewN ?_ _ | refine blk_drew ?_ | refine blk_alloc ?_ _)); exact BK134.out) hb); have n2_ := Aside0.mk (blk_below (g := gb139) (o := .cells #[.int .i64 t135, .int .i64 t136] 23 (0, 0)) (by (iterate 2 ((with_reducible repeat (first | refine blk_drewN ?_ _ | refine blk_drew ?_ | refine blk_alloc ?_ _)); refine blk_far ?_ NB139_144.out _)); (with_reducible repeat (first | refine blk_drewN ?_ _ | refine blk_drew ?_ | refine blk_alloc ?_ _)); exact BK139.out) hb); have n3_ := Aside0.mk (blk_below (g := gb144) (o := .cells #[.int .i64 t140, .int .i64 t141] 23 (0, 0)) (by (with_reducible repeat (first | refine blk_drewN ?_ _ | refine blk_drew ?_ | refine blk_alloc ?_ _)); refine blk_put (cs := #[.int .i64 t140, .int .i64 0]) ?_ 1 _ rfl; (with_reducible repeat (first | refine blk_drewN ?_ _ | refine blk_drew ?_ | refine blk_alloc ?_ _)); refine blk_put (cs := #[.int .i64 0, .int .i64 0]) ?_ 0 _ rfl; (with_reducible repeat (first | refine blk_drewN ?_ _ | refine blk_drew ?_ | refine blk_alloc ?_ _)); exact BK144.out) hb); have n4_ := Aside0.mk (below_step (by repeat (first | (with_reducible first | exact HB.out | apply below_alloc | apply pw_below_drewN | apply below_drew1 | refine below_set ?_ GE133.out | refine below_set ?_ GE134.out | refine below_set ?_ GE139.out | refine below_set ?_ GE144.out) | exact HB.out)) hb); clear BK133; clear BK134; clear BK139; clear BK144; clear HB; have BK133 := n0_; have BK134 := n1_; have BK139 := n2_; have BK144 := n3_; have HB := n4_; clear n0_ n1_ n2_ n3_ n4_; (try clear hb); (try clear hb2); (try clear hk); (try clear hi)))
        go_ret
        exact ⟨by first | rfl | (simp [errW_none, errW_some] <;> rfl) | (simp [*, errW_none, errW_some] <;> rfl), by repeat (first | (with_reducible first | exact HB.out | apply below_alloc | apply pw_below_drewN | apply below_drew1 | refine below_set ?_ GE133.out | refine below_set ?_ GE134.out | refine below_set ?_ GE139.out | refine below_set ?_ GE144.out) | exact HB.out)⟩
       ·
        rw [if_neg c302] at H
        have c302b0 : (false == false) = false := by first | (simp; done) | (simp at c302; done) | simpa using c302
        (try (have c302b1 : decide (false = false) = false := by first | (simp; done) | (simp at c302; done) | simpa using c302))
        (try (have c302b2 : (false == false) = false := by first | (simp; done) | (simp at c302; done) | simpa using c302))
        (try (have c302b3 : ¬ (false = false) := by first | (simp; done) | (simp at c302; done) | simpa using c302))
        clear c302
        obtain rfl := Option.some.inj H
        have hnb314 := NB139_133.out
        have hnc314 := NB133_139.out
        have hnb315 := NB139_134.out
        have hnc315 := NB134_139.out
        have hnb316 := NB139_144.out
        have hnc316 := NB144_139.out
        have hcz317_0 : w25.cell? ⟨gb139, 0, none⟩ = some (.int .i64 t135) := (blk_cell BK139.out 0).trans rfl
        have hcz317_1 : w25.cell? ⟨gb139, 1, none⟩ = some (.int .i64 t136) := (blk_cell BK139.out 1).trans rfl
        have hfz317_0 := blk_frozen BK139.out 0
        have hfz317_1 := blk_frozen BK139.out 1
        have hnb318 := NB144_133.out
        have hnc318 := NB133_144.out
        have hnb319 := NB144_134.out
        have hnc319 := NB134_144.out
        have hcz320_0 : w25.cell? ⟨gb144, 0, none⟩ = some (.int .i64 0) := (blk_cell BK144.out 0).trans rfl
        have hcz320_1 : w25.cell? ⟨gb144, 1, none⟩ = some (.int .i64 0) := (blk_cell BK144.out 1).trans rfl
        have hfz320_0 := blk_frozen BK144.out 0
        have hfz320_1 := blk_frozen BK144.out 1
        have hnb321 := NB133_134.out
        have hnc321 := NB134_133.out
        have hcz322_0 : w25.cell? ⟨gb133, 0, none⟩ = some (.int .i64 t128) := (blk_cell BK133.out 0).trans rfl
        have hcz322_1 : w25.cell? ⟨gb133, 1, none⟩ = some (.int .i64 t129) := (blk_cell BK133.out 1).trans rfl
        have hfz322_0 := blk_frozen BK133.out 0
        have hfz322_1 := blk_frozen BK133.out 1
        go_wp2
        go_ret
        exact ⟨by first | rfl | (simp [errW_none, errW_some] <;> rfl) | (simp [*, errW_none, errW_some] <;> rfl), by repeat (first | (with_reducible first | exact HB.out | apply below_alloc | apply pw_below_drewN | apply below_drew1 | refine below_set ?_ GE133.out | refine below_set ?_ GE134.out | refine below_set ?_ GE139.out | refine below_set ?_ GE144.out) | exact HB.out)⟩
  ·
   rw [if_neg c31] at H
   have c31b0 : (t143 == 0) = false := beq_eq_false_iff_ne.mpr c31
   have c31b1 : (t143 != 0) = true := bne_iff_ne.mpr c31
   obtain rfl := Option.some.inj H
   go_wp2
   go_ret
   exact ⟨by first | rfl | (simp [errW_none, errW_some] <;> rfl) | (simp [*, errW_none, errW_some] <;> rfl), by repeat (first | (with_reducible first | exact HB.out | apply below_alloc | apply pw_below_drewN | apply below_drew1 | refine below_set ?_ GE133.out | refine below_set ?_ GE134.out | refine below_set ?_ GE139.out | refine below_set ?_ GE144.out) | exact HB.out)⟩
 ·
  rw [if_neg c30] at H
  have c30b0 : (t138 == 0) = false := beq_eq_false_iff_ne.mpr c30
  have c30b1 : (t138 != 0) = true := bne_iff_ne.mpr c30
  obtain rfl := Option.some.inj H
  go_wp2
  go_ret
  exact ⟨by first | rfl | (simp [errW_none, errW_some] <;> rfl) | (simp [*, errW_none, errW_some] <;> rfl), by repeat (first | (with_reducible first | exact HB.out | apply below_alloc | apply pw_below_drewN | apply below_drew1 | refine below_set ?_ GE133.out | refine below_set ?_ GE134.out | refine below_set ?_ GE139.out | refine below_set ?_ GE144.out) | exact HB.out)⟩

/-- THE ONE PURE STATEMENT of headgatelaw03_AddrBoth: yours. -/
def headgatelaw03_AddrBoth.Pure : Prop := ∀ (a0 : Int) (a1 : Int) (a2 : Int), (Lit.int .i64 a0).wf = true → (Lit.int .i64 a1).wf = true → (Lit.int .i64 a2).wf = true → ∃ k, headgatelaw03_AddrBoth.f k a0 a1 a2 = some true
theorem headgatelaw03_AddrBoth.walk (P : headgatelaw03_AddrBoth.Pure) (a0 : Int) (a1 : Int) (a2 : Int) (w : World) (w0 : (Lit.int .i64 a0).wf = true) (w1 : (Lit.int .i64 a1).wf = true) (w2 : (Lit.int .i64 a2).wf = true) :
  Calls Try.prog 3 #[.int .i64 a0, .int .i64 a1, .int .i64 a2] w fun e w' => e = .returned (.bool true) ∧ Below w.heap.size w w' := by
 obtain ⟨k, h⟩ := P a0 a1 a2 w0 w1 w2
 refine (headgatelaw03_AddrBoth.calls k a0 a1 a2 true w h).mono ?_
 rintro e w' ⟨rfl, hd⟩
 exact ⟨rfl, hd⟩

end Go.Proofs.Ytmefcnfmbaajcaa.PBo
