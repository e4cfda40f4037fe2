/- Of the seat YtppmomobjjpljaaDoor: the statement of the law TableKnown, out of the contract of its function. Written by a program of this session. -/
import Derived.Test.YtppmomobjjpljaaDoorRows
import Derived.Test.YtppmomobjjpljaaDoorPk3
import Derived.Test.YtppmomobjjpljaaDoorD4P
import Derived.Test.YtppmomobjjpljaaDoorTie
import Derived.Test.YtppmomobjjpljaaDoorCards
import Derived.SevenTiedAt
namespace Go.Proofs.YtppmomobjjpljaaDoor.LawTableKnown
open Go Go.RowKit Go.Proofs.YtppmomobjjpljaaDoor.E
set_option maxRecDepth 100000
theorem own : ownKnob Tryd.prog.godebug = none := by kernel_rfl
theorem laidOut : laidOutB Tryd.prog = true := by kernel_rfl
/-- A world in which the listed variables hold what they are listed with. -/
noncomputable def laidWorld (os : Os) : World :=
  { World.holding Tryd.prog os ⟨#[], #[], []⟩ with heap := ((World.holding Tryd.prog os ⟨#[], #[], []⟩).heap.modify 0 fun
      | .cells _ t frozen => .cells (([4, 8, 16] : List Int).map fun z => Value.int .u64 z).toArray t frozen
      | o => o) }
theorem laid_met (os : Os) (args : Array Value) : laidMet Tryd.prog Rows.tableKnownRow.laid ((laidWorld os).forCall (fun _ _ => 0) ⟨#[], args, []⟩).memory :=
  laidMet_of_run' 8 (by kernel_rfl) (by kernel_rfl)
theorem witness_row (os : Os) {H : Type} (enc : TypeId × Value → H) : (OpenSpec.ofChange Rows.tableKnownSpec).preRow enc Tryd.prog Tryd.f8 [] false Rows.tableKnownRow.laid ((laidWorld os).forCall (fun _ _ => 0) ⟨#[], #[], []⟩).memory #[] := by
  have hw : (DataW.whole enc Tryd.prog ((laidWorld os).forCall (fun _ _ => 0) ⟨#[], #[], []⟩).memory Tryd.f8.params.toList [] false (#[] : Array Value).toList 8).map (fun x => (x.1, x.2.1)) = some ([], []) := by kernel_rfl
  obtain ⟨⟨x1, x2, x3⟩, hx, hx1⟩ := Option.map_eq_some_iff.1 hw
  simp only [Prod.mk.injEq] at hx1
  obtain ⟨rfl, rfl⟩ := hx1
  exact OpenSpec.preRow_of_cond 8 hx (by kernel_rfl) (fun k hk => by cases hk) (by kernel_rfl) (laid_met os _)
theorem g0 : Tryd.prog.globalNamed "headgate/entry.flagBits" = some 0 := by kernel_rfl
theorem spec_is {H : Type} (ds : List (DataW H)) (h : ds.length = 0) : Rows.tableKnownSpec.fn H ds = { results := [.lit (.bool true)], args := ds } := by
  match ds, h with
  | [], _ => rfl
theorem lifted (os : Os) (started : os.Started) (H : Type) (enc : TypeId × Value → H) (F : Stop.Interp) :
    ReturnsInHanded { modest := false } Tryd.checked os 8 .any ((OpenSpec.ofChange Rows.tableKnownSpec).preRow enc Tryd.prog Tryd.f8 [] false Rows.tableKnownRow.laid) (((OpenSpec.ofChange Rows.tableKnownSpec).at F).post enc Tryd.prog Tryd.f8 false true false false) :=
  law_lifted (C := Tryd.checked) (n := 8) (tb := 4) own started (by kernel_rfl) Tryd.func8 rfl laidOut (by kernel_rfl) (by kernel_rfl) (ys := []) (by kernel_rfl) (by kernel_rfl)
    (witness_row_at (enc := enc) (C := Tryd.checked) false (laidWorld os) #[] rfl (by kernel_rfl) (by kernel_rfl) (by kernel_rfl) (witness_row os enc))
    (fun W hL hsh => grel_tab (zs := [4, 8, 16]) (Lib.tabIs_of_head (t := 90) (e := 84) (n := 3) g0 (by kernel_rfl) (by kernel_rfl) (by kernel_rfl) (by kernel_rfl) (by kernel_rfl) hL) g0 (by decide) grel_nil)
    (fun ds h => spec_is ds h) (fun Ds h => tableKnown_law Ds h)
theorem said : Rows.TableKnownSaid :=
  OpenClaim.holds_of_cond 8 Tryd.f8 rfl rfl rfl rfl rfl rfl rfl ⟨rfl, rfl, rfl, rfl, rfl⟩ rfl rfl rfl rfl rfl (by kernel_rfl) Tryd.func8 (by kernel_rfl)
    (of_decide_eq_true (by kernel_rfl)) (by unfold Func.isWrapper; first | (rw [if_pos (by decide +kernel)]; kernel_rfl) | (rw [if_neg (by decide +kernel)]; exact ⟨rfl, rfl⟩))
    (fun os started H enc _ F => by rw [OpenClaim.pre_eq_preRow]; exact lifted os started H enc F)
end Go.Proofs.YtppmomobjjpljaaDoor.LawTableKnown
namespace Go.Proofs.YtppmomobjjpljaaDoor
open Go
/-- The law's statement: the tied card. -/
theorem tableKnown_holds : Rows.TableKnownCardSaid :=
  Claim7.holds_tied_plain_at .later [] [.data] true (true, "a0f1a6cc2794260288039abf28a25209be672c6a911e420c9b0fb3af56f1756c") false LawTableKnown.said (fun _ h => by cases h) (by kernel_rfl) (fun _ h => by cases h) tableKnown_row_tie rfl ⟨rfl, rfl⟩ (by kernel_rfl) rfl
    (fun f fn hf hfn => by
      obtain rfl : f = 8 := Option.some.inj ((show Tryd.prog.funcNamed "headgate/headgatelaw23.TableKnown" = some 8 by kernel_rfl).symm.trans hf) |>.symm
      obtain rfl : fn = Tryd.f8 := (Option.some.inj (Tryd.func8.symm.trans hfn)).symm
      refine ⟨by kernel_rfl, fun j t ht => ?_⟩
      have h : (Tryd.f8.params.toList.all fun t => !Tryd.prog.wantsStandIn t) = true := by kernel_rfl
      have h1 := List.all_eq_true.1 h t (List.mem_of_getElem? (i := j) ((Array.getElem?_toList ..).trans ht))
      exact (by simpa using h1 : Tryd.prog.wantsStandIn t = false))
    (by kernel_rfl)
#print axioms tableKnown_holds
end Go.Proofs.YtppmomobjjpljaaDoor
