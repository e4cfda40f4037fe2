/- Own texts of the claims of this seat, one behind the other: KE1, KE2, KE3, KE4, KE5, KE6, KE7, KE8: what a call comes to, and contracts of functions. -/
import Derived.Below
import Derived.Defers
import Derived.Laws.AppendOwn
import Derived.Laws.MakeOwn
import Derived.Laws.CopyRow
import Derived.Laws.Cells
import Derived.Orders
import Derived.Deep.Draws
import Derived.Laws.Entries
import Derived.Laws.Build
import Derived.Laws.StructEq
/- Part KE1. -/
section
/- A calculus for Go functions over an abstract memory (part 1): values told by their content, and when a value of the model is told so in a world. Conditions: those of each theorem. -/
namespace Go.Proofs.YtppmomobjjpljaaDoor.E
open Go Go.RowKit
set_option linter.unusedVariables false
set_option linter.unusedSimpArgs false
set_option linter.unusedSectionVars false

/-- A value as the calculus tells it. A slice or pointer into memory that nobody writes is told by its content (ro, rp); one into a block of the call's own by the block's name (sl: block, cells an element, first element, length; ptr: block, cells an element, element, cell). -/
inductive D where
  | int (k : IntKind) (n : Int)
  | bool (b : Bool)
  | str (s : ByteArray)
  | sc (v : Value)
  | agg (l : List D)
  | tup (l : List D)
  | nil
  | ro (l : List D)
  | rp (e : D) (j : Nat)
  | sl (b z i n : Nat)
  | ptr (b z i j : Nat)
  | fn (f : FuncId) (c : List D)
  | undef

def D.cells : D → List D
  | .agg l => l
  | d => [d]
/-- The value of one cell. -/
def D.one : D → Bool
  | .agg _ | .tup _ | .undef => false
  | _ => true
def okSc : Value → Bool
  | .pointer none | .nilFunc | .nilIface | .map none | .chan none => true
  | _ => false

mutual
/-- What is told without block r. -/
def D.kill (r : Nat) : D → D
  | .agg l => .agg (D.killL r l)
  | .tup l => .tup (D.killL r l)
  | .fn f l => .fn f (D.killL r l)
  | .sl b z i n => if b = r then .undef else .sl b z i n
  | .ptr b z i j => if b = r then .undef else .ptr b z i j
  | .int k n => .int k n
  | .bool b => .bool b
  | .str s => .str s
  | .sc v => .sc v
  | .nil => .nil
  | .ro l => .ro l
  | .rp e j => .rp e j
  | .undef => .undef
def D.killL (r : Nat) : List D → List D
  | [] => []
  | d :: l => D.kill r d :: D.killL r l
end
theorem killL_map (r : Nat) : ∀ l : List D, D.killL r l = l.map (D.kill r)
  | [] => rfl
  | d :: l => by rw [D.killL, killL_map r l]; rfl

/-- When a value of the model is told by d: blocks' names are turned by φ, M are the blocks that may be written, names are below n. -/
inductive Rd (φ : Nat → Nat) (M : Nat → Prop) (w : World) : Nat → D → Value → Prop
  | int {n k x} : Rd φ M w n (.int k x) (.int k x)
  | bool {n b} : Rd φ M w n (.bool b) (.bool b)
  | str {n s} : Rd φ M w n (.str s) (.string s)
  | sc {n v} (h : okSc v = true) : Rd φ M w n (.sc v) v
  | agg {n} {l : List D} {cs : Array Value} (hn : cs.size = l.length) (h : ∀ i d, l[i]? = some d → Rd φ M w n d (cs.getD i undef)) : Rd φ M w n (.agg l) (.agg cs)
  | tup {n} {l : List D} {cs : Array Value} (hn : cs.size = l.length) (h : ∀ i d, l[i]? = some d → Rd φ M w n d (cs.getD i undef)) : Rd φ M w n (.tup l) (.tuple cs)
  | nil {n a} : Rd φ M w n .nil (.slice a 0 0)
  | roE {n a c} (h : a = none → c = 0) : Rd φ M w n (.ro []) (.slice a 0 c)
  | ro {n} {l : List D} {k o z c : Nat} (g : Nat → Value) (hc : l.length ≤ c) (hm : c ≤ maxLen) (hM : ¬ M k) (hk : k < w.heap.size) (hz : ∀ e, e ∈ l → e.cells.length = z)
      (hw : ∀ i e j d, l[i]? = some e → e.cells[j]? = some d → w.cell? ⟨k, o + (i * z + j), none⟩ = some (g (i * z + j)))
      (h1 : ∀ i e j d, l[i]? = some e → e.cells[j]? = some d → (g (i * z + j)).oneCell' = true)
      (h : ∀ i e j d, l[i]? = some e → e.cells[j]? = some d → Rd φ M w 0 d (g (i * z + j))) : Rd φ M w n (.ro l) (.slice (some ⟨k, o, none⟩) l.length c)
  | rp {n} {e : D} {j k o : Nat} (g : Nat → Value) (hM : ¬ M k) (hk : k < w.heap.size)
      (hw : ∀ i d, e.cells[i]? = some d → w.cell? ⟨k, o + i, none⟩ = some (g i))
      (h : ∀ i d, e.cells[i]? = some d → Rd φ M w 0 d (g i)) : Rd φ M w n (.rp e j) (.pointer (some ⟨k, o + j, none⟩))
  | sl {n b z i m c : Nat} {cs : Array Value} {e : TypeId} {fz : Nat × Nat} (hb : b < n) (hcs : w.heap[φ b]? = some (.cells cs e fz)) (hs : (i + c) * z = cs.size) (hm : m ≤ c) (hc : c ≤ maxLen) :
      Rd φ M w n (.sl b z i m) (.slice (some ⟨φ b, i * z, none⟩) m c)
  | ptr {n b z i j : Nat} (hb : b < n) : Rd φ M w n (.ptr b z i j) (.pointer (some ⟨φ b, i * z + j, none⟩))
  | fn {n f} {l : List D} {cs : Array Value} (hn : cs.size = l.length) (h : ∀ i d, l[i]? = some d → Rd φ M w n d (cs.getD i undef)) : Rd φ M w n (.fn f l) (.func (.func f) #[] cs)
  | undef {n v} : Rd φ M w n .undef v

/-- What carries a telling from one world to a later one: block r is forgotten. -/
structure Carry (φ φ' : Nat → Nat) (M M' : Nat → Prop) (w w' : World) (r n : Nat) : Prop where
  size : w.heap.size ≤ w'.heap.size
  name : ∀ b, b < n → b ≠ r → φ' b = φ b
  block : ∀ k, k < w.heap.size → ¬ M k → w'.heap[k]? = w.heap[k]?
  may : ∀ k, k < w.heap.size → M' k → M k
  loc : ∀ b, b < n → b ≠ r → ∀ cs e fz, w.heap[φ b]? = some (.cells cs e fz) → ∃ cs' e' fz', w'.heap[φ b]? = some (.cells cs' e' fz') ∧ cs'.size = cs.size

theorem Carry.zero {φ φ' : Nat → Nat} {M M' : Nat → Prop} {w w' : World} {r n : Nat} (h : Carry φ φ' M M' w w' r n) : Carry φ φ' M M' w w' r 0 :=
  ⟨h.size, fun b hb => absurd hb (Nat.not_lt_zero b), h.block, h.may, fun b hb => absurd hb (Nat.not_lt_zero b)⟩

theorem map_same {l : List D} {f : D → D} (h : ∀ (i : Nat) (d : D), l[i]? = some d → f d = d) : l.map f = l := by
  refine List.ext_getElem? fun i => ?_
  rw [List.getElem?_map]
  cases hd : l[i]? with
  | none => rfl
  | some d => rw [Option.map_some, h i d hd]
theorem Rd.kill_fresh {φ : Nat → Nat} {M : Nat → Prop} {w : World} {r n : Nat} {d : D} {v : Value} (h : Rd φ M w n d v) : n ≤ r → d.kill r = d := by
  induction h with
  | agg hn h ih => intro hr; rw [D.kill, killL_map, map_same fun i d hd => ih i d hd hr]
  | tup hn h ih => intro hr; rw [D.kill, killL_map, map_same fun i d hd => ih i d hd hr]
  | fn hn h ih => intro hr; rw [D.kill, killL_map, map_same fun i d hd => ih i d hd hr]
  | sl hb => intro hr; rw [D.kill, if_neg (by omega)]
  | ptr hb => intro hr; rw [D.kill, if_neg (by omega)]
  | _ => intro _; simp only [D.kill]

theorem Rd.carry {φ φ' : Nat → Nat} {M M' : Nat → Prop} {w w' : World} {r n : Nat} {d : D} {v : Value} (h : Rd φ M w n d v) (hc : Carry φ φ' M M' w w' r n) :
    ∀ n', n ≤ n' → Rd φ' M' w' n' (d.kill r) v := by
  induction h with
  | int => intros; exact .int
  | bool => intros; exact .bool
  | str => intros; exact .str
  | sc h => intros; exact .sc h
  | agg hn h ih =>
    intro n' hn'
    simp only [D.kill, killL_map]
    refine .agg (by simpa using hn) fun i d hd => ?_
    rw [List.getElem?_map, Option.map_eq_some_iff] at hd
    obtain ⟨d0, h0, rfl⟩ := hd
    exact ih i d0 h0 hc n' hn'
  | tup hn h ih =>
    intro n' hn'
    simp only [D.kill, killL_map]
    refine .tup (by simpa using hn) fun i d hd => ?_
    rw [List.getElem?_map, Option.map_eq_some_iff] at hd
    obtain ⟨d0, h0, rfl⟩ := hd
    exact ih i d0 h0 hc n' hn'
  | fn hn h ih =>
    intro n' hn'
    simp only [D.kill, killL_map]
    refine .fn (by simpa using hn) fun i d hd => ?_
    rw [List.getElem?_map, Option.map_eq_some_iff] at hd
    obtain ⟨d0, h0, rfl⟩ := hd
    exact ih i d0 h0 hc n' hn'
  | nil => intros; exact .nil
  | roE h => intros; exact .roE h
  | @ro n l k o z c g hlc hm hM hk hz hw h1 h ih =>
    intro n' hn'
    refine .ro g hlc hm (fun hM' => hM (hc.may k hk hM')) (Nat.lt_of_lt_of_le hk hc.size) hz (fun i e j d h1 h2 => ?_) h1 (fun i e j d h1 h2 => ?_)
    · rw [World.cell?_of_block (w := w) (hc.block k hk hM)]; exact hw i e j d h1 h2
    · have h3 := ih i e j d h1 h2 hc.zero 0 (Nat.le_refl 0)
      rwa [(h i e j d h1 h2).kill_fresh (Nat.zero_le r)] at h3
  | @rp n e j k o g hM hk hw h ih =>
    intro n' hn'
    refine .rp g (fun hM' => hM (hc.may k hk hM')) (Nat.lt_of_lt_of_le hk hc.size) (fun i d h1 => ?_) (fun i d h1 => ?_)
    · rw [World.cell?_of_block (w := w) (hc.block k hk hM)]; exact hw i d h1
    · have h3 := ih i d h1 hc.zero 0 (Nat.le_refl 0)
      rwa [(h i d h1).kill_fresh (Nat.zero_le r)] at h3
  | @sl n b z i m c cs e fz hb hcs hs hm hcc =>
    intro n' hn'
    by_cases hr : b = r
    · rw [D.kill, if_pos hr]; exact .undef
    · rw [D.kill, if_neg hr]
      obtain ⟨cs', e', fz', h1, h2⟩ := hc.loc b hb hr cs e fz hcs
      rw [← hc.name b hb hr] at h1 ⊢
      exact .sl (Nat.lt_of_lt_of_le hb hn') h1 (hs.trans h2.symm) hm hcc
  | @ptr n b z i j hb =>
    intro n' hn'
    by_cases hr : b = r
    · rw [D.kill, if_pos hr]; exact .undef
    · rw [D.kill, if_neg hr, ← hc.name b hb hr]; exact .ptr (Nat.lt_of_lt_of_le hb hn')
  | undef => intros; simp only [D.kill]; exact .undef

/-- A row (or a variable): z cells an element, the type of its elements, what they are; flat: nothing in it leads to a block of the call's own. -/
structure Blk where
  z : Nat
  ty : TypeId
  els : List D
  flat : Bool
  var : Bool

structure BRel (φ : Nat → Nat) (M : Nat → Prop) (w : World) (n b : Nat) (B : Blk) (cs : Array Value) : Prop where
  heap : w.heap[φ b]? = some (.cells cs B.ty (0, 0))
  size : B.els.length * B.z ≤ cs.size
  zs : ∀ e, e ∈ B.els → e.cells.length = B.z
  one : ∀ v, v ∈ cs → v.oneCell' = true
  rd : ∀ i e j d, B.els[i]? = some e → e.cells[j]? = some d → Rd φ M w (if B.flat then 0 else n) d (cs.getD (i * B.z + j) undef)

def lk {α : Type} : List (Nat × α) → Nat → Option α
  | [], _ => none
  | (k, x) :: r, i => if k = i then some x else lk r i
def hset : List (Nat × Blk) → Nat → Blk → List (Nat × Blk)
  | [], _, _ => []
  | (k, x) :: r, b, B => if k = b then (k, B) :: r else (k, x) :: hset r b B
theorem lk_hset (H : List (Nat × Blk)) (b : Nat) (B : Blk) (k : Nat) : lk (hset H b B) k = if k = b then (lk H b).map (fun _ => B) else lk H k := by
  induction H with
  | nil => simp [hset, lk]
  | cons x r ih =>
    obtain ⟨q, x⟩ := x
    simp only [hset, lk]
    by_cases h : q = b
    · rw [if_pos h, if_pos h]
      simp only [lk]
      by_cases h2 : k = b
      · rw [if_pos h2, if_pos (by omega)]; rfl
      · rw [if_neg h2, if_neg (by omega)]
        rw [if_neg (by omega)]
    · rw [if_neg h, if_neg h]
      simp only [lk, ih]
      by_cases h2 : q = k
      · rw [if_pos h2, if_neg (by omega), if_pos h2]
      · rw [if_neg h2, if_neg h2]
/-- A block without what leads to block r. -/
def Blk.kill (r : Nat) (B : Blk) : Blk := if B.flat then B else { B with els := B.els.map (D.kill r) }
def killT (r : Nat) : List (Nat × D) → List (Nat × D)
  | [] => []
  | (k, d) :: l => (k, d.kill r) :: killT r l
def killH (r : Nat) : List (Nat × Blk) → List (Nat × Blk)
  | [] => []
  | (k, B) :: l => (k, B.kill r) :: killH r l
def killF (r : Nat) : List (List (Nat × D)) → List (List (Nat × D))
  | [] => []
  | t :: l => killT r t :: killF r l
theorem lk_killT (r : Nat) (T : List (Nat × D)) (i : Nat) : lk (killT r T) i = (lk T i).map (D.kill r) := by
  induction T with
  | nil => rfl
  | cons x T ih => obtain ⟨q, x⟩ := x; simp only [killT, lk]; split <;> simp [ih]
theorem lk_killH (r : Nat) (T : List (Nat × Blk)) (i : Nat) : lk (killH r T) i = (lk T i).map (Blk.kill r) := by
  induction T with
  | nil => rfl
  | cons x T ih => obtain ⟨q, x⟩ := x; simp only [killH, lk]; split <;> simp [ih]

/-- What a call knows: its slots, the blocks of its own, the next name, how many slots, the slots of those that called it in place, what it has deferred. -/
structure St where
  tm : List (Nat × D)
  hp : List (Nat × Blk)
  nx : Nat
  nt : Nat
  fr : List (List (Nat × D))
  df : List (FuncId × List D)

structure Ctx where
  fl : Nat
  w0 : World
  M : Nat → Prop
  frv : List (Array Value)
  G : List (Nat × D)

def Mut (M : Nat → Prop) (φ : Nat → Nat) (H : List (Nat × Blk)) (k : Nat) : Prop := M k ∨ ∃ b B, lk H b = some B ∧ φ b = k
/-- Package variables that nobody writes. -/
def GRel (G : List (Nat × D)) (M : Nat → Prop) (fl : Nat) (w : World) : Prop :=
  ∀ g e, lk G g = some e → ¬ M g ∧ g < fl ∧ ∀ φ, Rd φ (fun k => M k ∨ fl ≤ k) w 0 (.rp e 0) (.pointer (some ⟨g, 0, none⟩))

structure Rel (C : Ctx) (φ : Nat → Nat) (s : St) (a : Act) (w : World) : Prop where
  nt : a.tmps.size = s.nt
  tm : ∀ i d, lk s.tm i = some d → Rd φ (Mut C.M φ s.hp) w s.nx d (a.tmps.getD i undef)
  frn : C.frv.length = s.fr.length
  fr : ∀ (i : Nat) (t : List (Nat × D)) (vs : Array Value), s.fr[i]? = some t → C.frv[i]? = some vs → ∀ j d, lk t j = some d → Rd φ (Mut C.M φ s.hp) w s.nx d (vs.getD j undef)
  hp : ∀ b B, lk s.hp b = some B → b < s.nx ∧ C.fl ≤ φ b ∧ ∃ cs, BRel φ (Mut C.M φ s.hp) w s.nx b B cs
  inj : ∀ b b' B B', lk s.hp b = some B → lk s.hp b' = some B' → φ b = φ b' → b = b'
  dfn : a.defers.length = s.df.length
  df : ∀ (i : Nat) (f : FuncId) (l : List D), s.df[i]? = some (f, l) → ∃ cs : Array Value, a.defers[i]? = some { target := .fn (.func f) cs, args := #[] } ∧ cs.size = l.length ∧ ∀ j d, l[j]? = some d → Rd φ (Mut C.M φ s.hp) w s.nx d (cs.getD j undef)
  below : Below C.fl C.w0 w
  fl : C.fl ≤ w.heap.size
  M : ∀ k, C.M k → k < C.fl
  G : GRel C.G C.M C.fl C.w0
end Go.Proofs.YtppmomobjjpljaaDoor.E
end

/- Part KE2. -/
section
/- A calculus for Go functions over an abstract memory (part 2): what each operation and each piece of code asks and leaves (wpE). Conditions: those of each theorem. -/
namespace Go.Proofs.YtppmomobjjpljaaDoor.E
open Go Go.RowKit
set_option linter.unusedVariables false
set_option linter.unusedSimpArgs false

mutual
/-- Nothing of d leads to a block of the call's own. -/
def D.free : D → Bool
  | .agg l => D.freeL l
  | .tup l => D.freeL l
  | .fn _ l => D.freeL l
  | .sl _ _ _ _ => false
  | .ptr _ _ _ _ => false
  | .int _ _ => true
  | .bool _ => true
  | .str _ => true
  | .sc _ => true
  | .nil => true
  | .ro _ => true
  | .rp _ _ => true
  | .undef => true
def D.freeL : List D → Bool
  | [] => true
  | d :: l => D.free d && D.freeL l
end
def oneL : List D → Bool
  | [] => true
  | d :: l => D.one d && oneL l

def ofVal : Value → Option D
  | .int k n => some (.int k n)
  | .bool b => some (.bool b)
  | .string s => some (.str s)
  | .slice none 0 0 => some .nil
  | .pointer none => some (.sc (.pointer none))
  | .nilFunc => some (.sc .nilFunc)
  | .nilIface => some (.sc .nilIface)
  | .map none => some (.sc (.map none))
  | _ => none
def ofVals : List Value → Option (List D)
  | [] => some []
  | v :: l => match ofVal v, ofVals l with
    | some d, some r => some (d :: r)
    | _, _ => none
/-- The zero value of a type, told. -/
def zeroP (P : Program) (T : TypeId) : Option D :=
  match P.info? T with
  | some i => match i.zero with
    | some (.agg cs) => (ofVals cs.toList).map .agg
    | some v => ofVal v
    | none => none
  | none => none
/-- Is it a struct or an array, and how many cells has it? -/
def szP (P : Program) (T : TypeId) : Option (Bool × Nat) :=
  match P.underlying T, P.info? T with
  | some d, some i => some (match d with | .struct _ | .array _ _ => true | _ => false, i.size)
  | _, _ => none
/-- Where a field lies: its first cell, struct or array, its cells. -/
def fldP (P : Program) (T : TypeId) (f : Nat) : Option (Nat × Bool × Nat) :=
  match P.underlying T with
  | some (.struct fs) => match fs[f]? with
    | some x => match szP P x.type with
      | some (g, n) => if n = 0 then none else some (x.offset, g, n)
      | none => none
    | none => none
  | _ => none
inductive Kd where
  | bool | str
  | int (k : IntKind)
  | slice (e : TypeId) (n bytes : Nat) (z : D)
  | array (len : Nat) (g : Bool) (n : Nat)
  | struct
/-- What kind of type it is. -/
def kdP (P : Program) (T : TypeId) : Option Kd :=
  match P.underlying T with
  | some .bool => some .bool
  | some (.int k) => some (.int k)
  | some .string => some .str
  | some (.slice e) => match P.info? e, zeroP P e with
    | some i, some z => if z.cells.length = i.size ∧ 0 < i.size then some (.slice e i.size i.bytes z) else none
    | _, _ => none
  | some (.array len e) => match szP P e with
    | some (g, n) => if n = 0 then none else some (.array len g n)
    | none => none
  | some (.struct fs) => if fs.all (fun f => (P.info? f.type).isSome) then some .struct else none
  | _ => none
/-- What is known of a type. -/
structure Ty where
  g : Bool
  n : Nat
  z : Option D
  kd : Option Kd
  fl : List (Nat × Bool × Nat)
inductive Tr where
  | leaf
  | node (l : Tr) (k : Nat) (x : Ty) (r : Tr)
def Tr.find : Tr → Nat → Option Ty
  | .leaf, _ => none
  | .node l k x r, i => if i = k then some x else if i < k then l.find i else r.find i
/-- The table says what the program's types are. -/
def TyOk (P : Program) (T : TypeId) (x : Ty) : Prop :=
  szP P T = some (x.g, x.n) ∧ (∀ z, x.z = some z → zeroP P T = some z) ∧ (∀ k, x.kd = some k → kdP P T = some k) ∧ ∀ (f : Nat) y, x.fl[f]? = some y → fldP P T f = some y
def Tr.ok (P : Program) : Tr → Prop
  | .leaf => True
  | .node l k x r => l.ok P ∧ TyOk P k x ∧ r.ok P
theorem Tr.ok_find {P : Program} {T : TypeId} {x : Ty} : ∀ {t : Tr}, t.ok P → t.find T = some x → TyOk P T x
  | .leaf, _, h => by cases h
  | .node l k y r, ho, h => by
    simp only [Tr.find] at h
    split at h
    · rename_i hk; cases h; subst hk; exact ho.2.1
    · split at h
      · exact Tr.ok_find ho.1 h
      · exact Tr.ok_find ho.2.2 h
theorem fld_nil {P : Program} {T : TypeId} {i : Nat} : ∀ (f : Nat) (y : Nat × Bool × Nat), ([] : List (Nat × Bool × Nat))[f]? = some y → fldP P T (i + f) = some y := fun f y h => by simp at h
theorem fld_cons' {P : Program} {T : TypeId} {i : Nat} {y0 : Nat × Bool × Nat} {l : List (Nat × Bool × Nat)} (h0 : fldP P T i = some y0)
    (h : ∀ (f : Nat) (y : Nat × Bool × Nat), l[f]? = some y → fldP P T (i + 1 + f) = some y) : ∀ (f : Nat) (y : Nat × Bool × Nat), (y0 :: l)[f]? = some y → fldP P T (i + f) = some y := by
  intro f y hf
  cases f with
  | zero => simp at hf; rw [← hf]; exact h0
  | succ f => rw [show i + (f + 1) = i + 1 + f by omega]; exact h f y (by simpa using hf)
/-- What the calculus does not look into: sums, tests, lists, what is known of calls. -/
structure Fns where
  ar : BinOp → IntKind → Int → Int → Int
  cm : BinOp → Int → Int → Bool
  be : Bool → Bool → Bool
  cv : IntKind → Int → Int
  un : UnOp → IntKind → Int → Int
  mx : Bool → Int → Int → Int
  nat : Nat → Int
  len : List D → Nat
  lset : List D → Nat → D → List D
  app : List D → List D → List D
  rep : Int → D → List D
  sub : List D → Nat → Nat → List D
  ix : Nat → Int → Nat
  sb : Nat → Nat → Nat
  am : Nat → Nat → Nat → Nat
  sz : ByteArray → Nat
  cat : ByteArray → ByteArray → ByteArray
  ext : ByteArray → Nat → Nat → ByteArray
  seq : ByteArray → ByteArray → Bool
  u8 : UInt8 → Int
  pr : (Unit → Prop) → Prop
  CT : FuncId → List D → D → List Blk → Prop
  IC : FuncId → List D → St → (D → St → Prop) → Prop
  EQ : TypeId → D → D → Bool → Prop
  WK : St → St → Prop
  LP : ((St → Prop) → St → Prop) → St → Prop
  mn : Nat → Nat → Nat
  cpy : List D → Nat → Nat → List D → List D
  clr : List D → Nat → Nat → D → List D
/-- What a proof works over: the types, the package variables, the rest. -/
structure Env where
  tys : Nat → Option Ty
  G : List (Nat × D)
  F : Fns
def szE (P : Env) (T : TypeId) : Option (Bool × Nat) := match P.tys T with | some x => some (x.g, x.n) | none => none
def zeroD (P : Env) (T : TypeId) : Option D := match P.tys T with | some x => x.z | none => none
def kdE (P : Env) (T : TypeId) : Option Kd := match P.tys T with | some x => x.kd | none => none
def fldE (P : Env) (T : TypeId) (f : Nat) : Option (Nat × Bool × Nat) := match P.tys T with | some x => x.fl[f]? | none => none

def opnd (G : List (Nat × D)) (s : St) : Operand → Option D
  | .tmp t => lk s.tm t
  | .const v => ofVal v
  | .global g => match lk G g with
    | some e => some (.rp e 0)
    | none => none
  | .func f => some (.fn f [])
def opnds (G : List (Nat × D)) (s : St) : List Operand → Option (List D)
  | [] => some []
  | x :: l => match opnd G s x, opnds G s l with
    | some d, some r => some (d :: r)
    | _, _ => none
def getE (E : Env) (s : St) (x : Operand) (K : D → Prop) : Prop :=
  match opnd E.G s x with
  | some d => K d
  | none => False
def getsE (E : Env) (s : St) (l : List Operand) (K : List D → Prop) : Prop :=
  match opnds E.G s l with
  | some ds => K ds
  | none => False
def St.set (s : St) (t : Option Tmp) (d : D) : St :=
  match t with
  | some i => if i < s.nt then { s with tm := (i, d) :: s.tm } else s
  | none => s
def St.new (s : St) (B : Blk) : St := { s with hp := (s.nx, B) :: s.hp, nx := s.nx + 1 }

def patch : List D → Nat → List D → List D
  | [], _, _ => []
  | c :: l, j + 1, xs => c :: patch l j xs
  | c :: l, 0, [] => c :: l
  | _ :: l, 0, x :: xs => x :: patch l 0 xs
/-- Cells j, j+1, .. of an element, written over. -/
def put1 (e : D) (j : Nat) (x : D) : D :=
  if j = 0 ∧ x.cells.length = e.cells.length then x else .agg (patch e.cells j x.cells)
def takeL : Nat → List D → Option (List D)
  | 0, _ => some []
  | _ + 1, [] => none
  | n + 1, d :: l => match takeL n l with
    | some r => some (d :: r)
    | none => none
def dropL : Nat → List D → List D
  | 0, l => l
  | _ + 1, [] => []
  | n + 1, _ :: l => dropL n l
/-- What is loaded from an element at cell j. -/
def takeE (g : Bool) (n : Nat) (e : D) (j : Nat) : Option D :=
  match g with
  | true => match takeL n (dropL j e.cells) with
    | some l => some (.agg l)
    | none => none
  | false => match dropL j e.cells with
    | d :: _ => some d
    | [] => none
/-- The element that a pointer leads to, and the cell. -/
def elemE (s : St) (p : D) (K : D → Nat → Prop) : Prop :=
  match p with
  | .ptr b z i j => match lk s.hp b with
    | some B => if B.z = z then match B.var with
        | true => match B.els, i with
          | [e], 0 => K e j
          | _, _ => False
        | false => ∃ e, B.els[i]? = some e ∧ K e j
      else False
    | none => False
  | .rp e j => K e j
  | _ => False
def loadE (E : Env) (T : TypeId) (s : St) (p : D) (K : D → Prop) : Prop :=
  match szE E T with
  | some (g, n) => elemE s p fun e j => match takeE g n e j with
    | some x => K x
    | none => False
  | none => False
def storeE (E : Env) (T : TypeId) (s : St) (p x : D) (K : St → Prop) : Prop :=
  match szE E T, p with
  | some (_, n), .ptr b z i j => match lk s.hp b with
    | some B => if B.z = z ∧ x.cells.length = n ∧ j + n ≤ z ∧ oneL x.cells = true then match B.var with
        | true => match B.els, i with
          | [e], 0 => K { s with hp := hset s.hp b { B with els := [put1 e j x], flat := B.flat && x.free } }
          | _, _ => False
        | false => if j = 0 ∧ n = z then
              E.F.pr (fun _ => i < B.els.length) ∧ K { s with hp := hset s.hp b { B with els := E.F.lset B.els i x, flat := B.flat && x.free } }
            else ∃ e, B.els[i]? = some e ∧ K { s with hp := hset s.hp b { B with els := E.F.lset B.els i (put1 e j x), flat := B.flat && x.free } }
      else False
    | none => False
  | _, _ => False

def binE (E : Env) (op : BinOp) (T : TypeId) (x y : D) (K : D → Prop) : Prop :=
  match op, x, y with
  | .shl, .int k a, .int _ b => E.F.pr (fun _ => 0 ≤ b) ∧ K (.int k (E.F.ar .shl k a b))
  | .shr, .int k a, .int _ b => E.F.pr (fun _ => 0 ≤ b) ∧ K (.int k (E.F.ar .shr k a b))
  | .quo, .int k a, .int k' b => if k = k' then E.F.pr (fun _ => b ≠ 0) ∧ K (.int k (E.F.ar .quo k a b)) else False
  | .rem, .int k a, .int k' b => if k = k' then E.F.pr (fun _ => b ≠ 0) ∧ K (.int k (E.F.ar .rem k a b)) else False
  | .add, .int k a, .int k' b => if k = k' then K (.int k (E.F.ar .add k a b)) else False
  | .sub, .int k a, .int k' b => if k = k' then K (.int k (E.F.ar .sub k a b)) else False
  | .mul, .int k a, .int k' b => if k = k' then K (.int k (E.F.ar .mul k a b)) else False
  | .and, .int k a, .int k' b => if k = k' then K (.int k (E.F.ar .and k a b)) else False
  | .or, .int k a, .int k' b => if k = k' then K (.int k (E.F.ar .or k a b)) else False
  | .xor, .int k a, .int k' b => if k = k' then K (.int k (E.F.ar .xor k a b)) else False
  | .andNot, .int k a, .int k' b => if k = k' then K (.int k (E.F.ar .andNot k a b)) else False
  | op, .int k a, .int k' b => if k = k' then K (.bool (E.F.cm op a b)) else False
  | .eql, .bool a, .bool b => match kdE E T with
    | some .bool => K (.bool (E.F.be a b))
    | _ => False
  | .neq, .bool a, .bool b => match kdE E T with
    | some .bool => match E.F.be a b with
      | true => K (.bool false)
      | false => K (.bool true)
    | _ => False
  | .eql, .str a, .str b => K (.bool (E.F.seq a b))
  | .neq, .str a, .str b => match E.F.seq a b with
    | true => K (.bool false)
    | false => K (.bool true)
  | .add, .str a, .str b => E.F.pr (fun _ => a.size + b.size ≤ 9223372036854775807) ∧ K (.str (E.F.cat a b))
  | .eql, .agg a, .agg b => ∃ r, E.F.EQ T (.agg a) (.agg b) r ∧ K (.bool r)
  | .neq, .agg a, .agg b => ∃ r, E.F.EQ T (.agg a) (.agg b) r ∧ K (.bool (!r))
  | _, _, _ => False
/-- Is it the nil that stands in the code? -/
def nilC : Operand → Bool
  | .const (.slice none _ _) => true
  | _ => false
/-- A slice held against nil. -/
def nilE (E : Env) (op : BinOp) (T : TypeId) (x : D) (K : D → Prop) : Prop :=
  match kdE E T with
  | some (.slice _ _ _ _) => match op, x with
    | .eql, .sl _ _ _ _ => K (.bool false)
    | .neq, .sl _ _ _ _ => K (.bool true)
    | .eql, .ro l => (l ≠ [] → K (.bool false)) ∧ (l = [] → K (.bool true) ∧ K (.bool false))
    | .neq, .ro l => (l ≠ [] → K (.bool true)) ∧ (l = [] → K (.bool true) ∧ K (.bool false))
    | .eql, .nil => K (.bool true) ∧ K (.bool false)
    | .neq, .nil => K (.bool true) ∧ K (.bool false)
    | _, _ => False
  | _ => False
def unE (E : Env) (op : UnOp) (x : D) (K : D → Prop) : Prop :=
  match op, x with
  | .not, .bool b => match b with
    | true => K (.bool false)
    | false => K (.bool true)
  | .neg, .int k n => K (.int k (E.F.un .neg k n))
  | .xor, .int k n => K (.int k (E.F.un .xor k n))
  | _, _ => False
def convE (E : Env) (S T : TypeId) (x : D) (K : D → Prop) : Prop :=
  match x, kdE E S, kdE E T with
  | .int _ n, some (.int _), some (.int k) => K (.int k (E.F.cv k n))
  | _, _, _ => False
def lenE (E : Env) (T : TypeId) (x : D) (K : D → Prop) : Prop :=
  match kdE E T, x with
  | some (.slice ..), .sl _ _ _ n => K (.int .i64 (E.F.nat n))
  | some (.slice ..), .ro l => K (.int .i64 (E.F.nat (E.F.len l)))
  | some (.slice ..), .nil => K (.int .i64 0)
  | some .str, .str s => K (.int .i64 (E.F.nat (E.F.sz s)))
  | some (.array n _ _), _ => K (.int .i64 (E.F.nat n))
  | _, _ => False
def minmax (E : Env) (hi : Bool) : D → List D → Option D
  | x, [] => some x
  | .int k a, .int _ b :: l => minmax E hi (.int k (E.F.mx hi a b)) l
  | _, _ => none
/-- The elements of a slice, where they are known. -/
def listE (E : Env) (s : St) (z : Nat) : D → Option (List D)
  | .ro l => some l
  | .nil => some []
  | .sl b z' i n => match lk s.hp b with
    | some B => if B.flat = true ∧ B.z = z' ∧ z' = z then some (E.F.sub B.els i n) else none
    | none => none
  | _ => none
def inRow (s : St) : D → Prop
  | .sl b _ i n => match lk s.hp b with
    | some B => i + n ≤ B.els.length
    | none => False
  | _ => True
def killDf (r : Nat) : List (FuncId × List D) → List (FuncId × List D)
  | [] => []
  | (f, l) :: q => (f, D.killL r l) :: killDf r q
def St.kill (s : St) (r : Nat) : St := { s with tm := killT r s.tm, hp := killH r s.hp, fr := killF r s.fr, df := killDf r s.df }
def appendE (E : Env) (T T' : TypeId) (s : St) (dst : Option Tmp) (x y : D) (K : St → Prop) : Prop :=
  if T = T' then match kdE E T with
    | some (.slice e z bytes _) => match listE E s z y with
      | some xs => E.F.pr (fun _ => inRow s y ∧ ∀ d, d ∈ xs → d.cells.length = z) ∧ match x with
        | .nil => E.F.pr (fun _ => xs.length * bytes ≤ 140737488355328 ∧ xs.length ≤ 9223372036854775807) ∧
            (xs = [] → K (s.set dst .nil)) ∧ (xs ≠ [] → K ((s.new ⟨z, e, xs, true, false⟩).set dst (.sl s.nx z 0 (E.F.len xs))))
        | .sl b z' i n => match lk s.hp b with
          | some B => if z' = z ∧ i = 0 ∧ B.z = z ∧ B.ty = e ∧ B.var = false ∧ B.flat = true then
                E.F.pr (fun _ => n = B.els.length ∧ (n + xs.length) * bytes ≤ 140737488355328 ∧ n + xs.length ≤ 9223372036854775807) ∧
                K ((let s' := s.kill b; { s' with hp := hset s'.hp b { z := z, ty := e, els := E.F.app B.els xs, flat := true, var := false } }).set dst (.sl b z 0 (E.F.am n 1 (E.F.len xs))))
              else False
          | none => False
        | _ => False
      | none => False
    | _ => False
  else False
def makeE (E : Env) (T : TypeId) (s : St) (dst : Option Tmp) (n c : D) (K : St → Prop) : Prop :=
  match kdE E T, n, c with
  | some (.slice e z bytes d), .int _ n, .int _ c => E.F.pr (fun _ => 0 ≤ n ∧ n ≤ c ∧ c ≤ 9223372036854775807 ∧ bytes * c ≤ 140737488355328) ∧
      K ((s.new ⟨z, e, E.F.rep n d, d.free, false⟩).set dst (.sl s.nx z 0 (E.F.ix 0 n)))
  | _, _, _ => False
def copyE (E : Env) (T : TypeId) (s : St) (dst : Option Tmp) (x y : D) (K : St → Prop) : Prop :=
  match kdE E T, x with
  | some (.slice e z _ _), .sl b z' i n => match lk s.hp b with
    | some B => match listE E s 1 y with
      | some xs => if z = 1 ∧ z' = 1 ∧ B.z = 1 ∧ B.flat = true then
          E.F.pr (fun _ => i + n ≤ B.els.length ∧ inRow s y ∧ ∀ d, d ∈ xs → d.cells.length = 1) ∧
          K ({ s with hp := hset s.hp b { B with els := E.F.cpy B.els i n xs } }.set dst (.int .i64 (E.F.nat (E.F.mn n (E.F.len xs)))))
        else False
      | none => False
    | none => False
  | _, _ => False
def clearE (E : Env) (T : TypeId) (s : St) (dst : Option Tmp) (x : D) (K : St → Prop) : Prop :=
  match kdE E T, x with
  | some (.slice e z _ d), .sl b z' i n => match lk s.hp b with
    | some B => if z = 1 ∧ z' = 1 ∧ B.z = 1 ∧ B.flat = true then
        E.F.pr (fun _ => i + n ≤ B.els.length ∧ d.free = true) ∧ K ({ s with hp := hset s.hp b { B with els := E.F.clr B.els i n d } }.set dst (.tup []))
      else False
    | none => False
  | some (.slice _ _ _ _), .ro l => E.F.pr (fun _ => l = []) ∧ K (s.set dst (.tup []))
  | some (.slice _ _ _ _), .nil => K (s.set dst (.tup []))
  | _, _ => False
def boundE (E : Env) (s : St) (o : Option Operand) (dflt : Nat) (K : Nat → Prop) : Prop :=
  match o with
  | none => K dflt
  | some x => match opnd E.G s x with
    | some (.int _ i) => E.F.pr (fun _ => 0 ≤ i) ∧ K (E.F.ix 0 i)
    | _ => False
def sliceE (E : Env) (T : TypeId) (s : St) (x : D) (lo hi : Option Operand) (K : D → Prop) : Prop :=
  match kdE E T, x with
  | some (.slice _ z _ _), .sl b z' i n => boundE E s hi n fun h => if z = z' then match lo with
      | none => E.F.pr (fun _ => h ≤ n) ∧ K (.sl b z i h)
      | some _ => boundE E s lo 0 fun l => E.F.pr (fun _ => l ≤ h ∧ h ≤ n) ∧
          (l = 0 → K (.sl b z i h)) ∧ (0 < l → l = h → K (.ro [])) ∧ (0 < l → l < h → K (.sl b z (E.F.am i 1 l) (E.F.sb h l)))
      else False
  | some (.slice _ z _ _), .ro xs => boundE E s hi (E.F.len xs) fun h => boundE E s lo 0 fun l => E.F.pr (fun _ => l ≤ h ∧ h ≤ xs.length ∧ (∀ d, d ∈ xs → d.cells.length = z)) ∧ K (.ro (E.F.sub xs l (E.F.sb h l)))
  | some .str, .str t => boundE E s hi (E.F.sz t) fun h => boundE E s lo 0 fun l => E.F.pr (fun _ => l ≤ h ∧ h ≤ t.size) ∧ K (.str (E.F.ext t l h))
  | _, _ => False
/-- Parts written into a struct's or an array's cells. -/
def fillE (place : Nat → Option (Nat × Nat)) : List D → List (Nat × D) → Option (List D)
  | cs, [] => some cs
  | cs, (i, d) :: r => match place i with
    | some (off, n) => if d.cells.length = n ∧ off + n ≤ cs.length ∧ oneL d.cells = true then fillE place (patch cs off d.cells) r else none
    | none => none
def partsE (G : List (Nat × D)) (s : St) : List (Nat × Operand) → Option (List (Nat × D))
  | [] => some []
  | (i, x) :: l => match opnd G s x, partsE G s l with
    | some d, some r => some ((i, d) :: r)
    | _, _ => none
def partsK (E : Env) (s : St) (l : List (Nat × Operand)) (K : List (Nat × D) → Prop) : Prop :=
  match partsE E.G s l with
  | some ds => K ds
  | none => False
def buildE (E : Env) (T : TypeId) (ps : List (Nat × D)) (K : D → Prop) : Prop :=
  match kdE E T, zeroD E T with
  | some .struct, some z => match fillE (fun i => match fldE E T i with | some (o, _, n) => some (o, n) | none => none) z.cells ps with
    | some cs => K (.agg cs)
    | none => False
  | some (.array len _ n), some z => match fillE (fun i => if i < len then some (i * n, n) else none) z.cells ps with
    | some cs => K (.agg cs)
    | none => False
  | _, _ => False
/-- Elements set one after the other. -/
def setsE (n : Nat) : List D → List (Nat × D) → Option (List D)
  | l, [] => some l
  | l, (i, d) :: r => if i < l.length ∧ d.cells.length = n ∧ oneL d.cells = true then setsE n (l.set i d) r else none
def freeAll : List (Nat × D) → Bool
  | [] => true
  | (_, d) :: l => d.free && freeAll l
def reps : Nat → D → List D
  | 0, _ => []
  | n + 1, d => d :: reps n d
def buildSliceE (E : Env) (T : TypeId) (len : Nat) (s : St) (dst : Option Tmp) (ps : List (Nat × D)) (K : St → Prop) : Prop :=
  match kdE E T with
  | some (.slice e n _ z) => match setsE n (reps len z) ps with
    | some els => match len with
      | 0 => K (s.set dst .nil)
      | _ + 1 => if len * n ≤ 16777216 then K ((s.new ⟨n, e, els, z.free && freeAll ps, false⟩).set dst (.sl s.nx n 0 len)) else False
    | none => False
  | _ => False
def indexAddrE (E : Env) (T : TypeId) (s : St) (x i : D) (K : D → Prop) : Prop :=
  match kdE E T, x, i with
  | some (.slice _ z _ _), .sl b z' o n, .int _ i => if z = z' then E.F.pr (fun _ => 0 ≤ i ∧ i < n) ∧ K (.ptr b z (E.F.ix o i) 0) else False
  | some (.slice _ z _ _), .ro l, .int _ i => E.F.pr (fun _ => 0 ≤ i) ∧ ∃ e, l[i.toNat]? = some e ∧ e.cells.length = z ∧ K (.rp e 0)
  | some (.array len _ n), .ptr b z o j, .int _ i => ∃ k : Nat, i = k ∧ k < len ∧ K (.ptr b z o (j + k * n))
  | some (.array len _ n), .rp e j, .int _ i => ∃ k : Nat, i = k ∧ k < len ∧ K (.rp e (j + k * n))
  | _, _, _ => False
def indexE (E : Env) (T : TypeId) (x i : D) (K : D → Prop) : Prop :=
  match kdE E T, x, i with
  | some (.array len g n), .agg l, .int _ i => ∃ k : Nat, i = k ∧ k < len ∧ ∃ d, takeE g n (.agg l) (k * n) = some d ∧ K d
  | some .str, .str t, .int _ i => E.F.pr (fun _ => 0 ≤ i) ∧ ∃ b, t[i.toNat]? = some b ∧ K (.int .u8 (E.F.u8 b))
  | _, _, _ => False

mutual
/-- What a value is, told by its content alone (slices of the call's own rows become lists). -/
def reify (E : Env) (s : St) : D → Option D
  | .sl b z i n => match lk s.hp b with
    | some B => if B.flat = true ∧ B.z = z then some (.ro (E.F.sub B.els i n)) else none
    | none => none
  | .nil => some (.ro [])
  | .agg l => match reifyL E s l with
    | some r => some (.agg r)
    | none => none
  | .tup l => match reifyL E s l with
    | some r => some (.tup r)
    | none => none
  | .ptr b z i j => match lk s.hp b with
    | some B => if B.flat = true ∧ B.z = z then match B.var, B.els, i with
        | true, [e], 0 => some (.rp e j)
        | _, _, _ => none
      else none
    | none => none
  | .fn f l => match reifyL E s l with
    | some r => some (.fn f r)
    | none => none
  | .int k n => some (.int k n)
  | .bool b => some (.bool b)
  | .str t => some (.str t)
  | .sc v => some (.sc v)
  | .ro l => some (.ro l)
  | .rp e j => some (.rp e j)
  | .undef => some .undef
def reifyL (E : Env) (s : St) : List D → Option (List D)
  | [] => some []
  | d :: l => match reify E s d, reifyL E s l with
    | some x, some r => some (x :: r)
    | _, _ => none
end
mutual
/-- The slices in d lie within their rows. -/
def inRows (s : St) : D → Prop
  | .sl b z i n => match lk s.hp b with
    | some B => i + n ≤ B.els.length
    | none => False
  | .agg l => inRowsL s l
  | .tup l => inRowsL s l
  | .fn _ l => inRowsL s l
  | .int _ _ => True
  | .bool _ => True
  | .str _ => True
  | .sc _ => True
  | .nil => True
  | .ptr _ _ _ _ => True
  | .ro _ => True
  | .rp _ _ => True
  | .undef => True
def inRowsL (s : St) : List D → Prop
  | [] => True
  | d :: l => inRows s d ∧ inRowsL s l
end
mutual
/-- Nothing of d leads to memory at all. -/
def D.dry : D → Bool
  | .agg l => D.dryL l
  | .tup l => D.dryL l
  | .fn _ l => D.dryL l
  | .sl _ _ _ _ => false
  | .ptr _ _ _ _ => false
  | .int _ _ => true
  | .bool _ => true
  | .str _ => true
  | .sc _ => true
  | .nil => true
  | .ro _ => false
  | .rp _ _ => false
  | .undef => true
def D.dryL : List D → Bool
  | [] => true
  | d :: l => D.dry d && D.dryL l
end
mutual
/-- The names of blocks raised by k. -/
def D.up (k : Nat) : D → D
  | .agg l => .agg (D.upL k l)
  | .tup l => .tup (D.upL k l)
  | .fn f l => .fn f (D.upL k l)
  | .sl b z i n => .sl (k + b) z i n
  | .ptr b z i j => .ptr (k + b) z i j
  | .int a n => .int a n
  | .bool b => .bool b
  | .str t => .str t
  | .sc v => .sc v
  | .nil => .nil
  | .ro l => .ro l
  | .rp e j => .rp e j
  | .undef => .undef
def D.upL (k : Nat) : List D → List D
  | [] => []
  | d :: l => D.up k d :: D.upL k l
end
def ups (k : Nat) : Nat → List Blk → List (Nat × Blk)
  | _, [] => []
  | i, B :: l => (k + i, B) :: ups k (i + 1) l
def St.adds (s : St) (ext : List Blk) : St := { s with hp := ups s.nx 0 ext ++ s.hp, nx := s.nx + ext.length }
mutual
/-- d leads to no memory but to named blocks. -/
def D.noro : D → Bool
  | .agg l => D.noroL l
  | .tup l => D.noroL l
  | .fn _ l => D.noroL l
  | .ro _ => false
  | .rp _ _ => false
  | .int _ _ => true
  | .bool _ => true
  | .str _ => true
  | .sc _ => true
  | .nil => true
  | .sl _ _ _ _ => true
  | .ptr _ _ _ _ => true
  | .undef => true
def D.noroL : List D → Bool
  | [] => true
  | d :: l => D.noro d && D.noroL l
end
/-- A call: by its contract, or in place. -/
def callE (E : Env) (f : FuncId) (ds : List D) (s : St) (K : D → St → Prop) : Prop :=
  (match reifyL E s ds with
    | some ds' => ∃ d ext, E.F.CT f ds' d ext ∧ E.F.pr (fun _ => inRowsL s ds ∧ (D.freeL ds = true ∨ (d.noro = true ∧ ∀ B, B ∈ ext → ∀ e, e ∈ B.els → e.dry = true))) ∧ K (d.up s.nx) (s.adds ext)
    | none => False) ∨
  E.F.IC f ds s K
def retK (o : Option Tmp) (K : St → Prop) (d : D) (s : St) : Prop := K (s.set o d)
def builtinE (E : Env) (b : Builtin) (tys : List TypeId) (ds : List D) (s : St) (dst : Option Tmp) (K : St → Prop) : Prop :=
  match b, tys, ds with
  | .len, T :: _, [x] => lenE E T x fun d => K (s.set dst d)
  | .append, [T, T'], [x, y] => appendE E T T' s dst x y K
  | .min, _, x :: l => match minmax E false x l with
    | some d => K (s.set dst d)
    | none => False
  | .max, _, x :: l => match minmax E true x l with
    | some d => K (s.set dst d)
    | none => False
  | .copy, [T, _], [x, y] => copyE E T s dst x y K
  | .clear, [T], [x] => clearE E T s dst x K
  | _, _, _ => False
def calleeE (E : Env) (c : Call) (s : St) (dst : Option Tmp) (K : St → Prop) : Prop :=
  match c.callee with
  | .builtin b => getsE E s c.args.toList fun ds => builtinE E b c.argTypes.toList ds s dst K
  | .value f => match opnd E.G s f with
    | some (.fn g caps) => getsE E s c.args.toList fun ds => callE E g (ds ++ caps) s (retK dst K)
    | _ => False
  | _ => False
/-- What an operation asks, and what it leaves. -/
def opE (E : Env) (o : Op) (dst : Option Tmp) (s : St) (K : St → Prop) : Prop :=
  match o with
  | .move x => getE E s x fun d => K (s.set dst d)
  | .assign x => getE E s x fun d => K (s.set dst d)
  | .pick c x y => getE E s c fun d => match d with
    | .bool b => match b with
      | true => getE E s x fun dx => K (s.set dst dx)
      | false => getE E s y fun dy => K (s.set dst dy)
    | _ => False
  | .alloc T => match zeroD E T with
    | some z => K ((s.new ⟨z.cells.length, T, [z], z.free, true⟩).set dst (.ptr s.nx z.cells.length 0 0))
    | none => False
  | .box T x => getE E s x fun d => if oneL d.cells = true then K ((s.new ⟨d.cells.length, T, [d], d.free, true⟩).set dst (.ptr s.nx d.cells.length 0 0)) else False
  | .build T ps => partsK E s ps.toList fun ds => buildE E T ds fun d => K (s.set dst d)
  | .buildSlice T n ps => partsK E s ps.toList fun ds => buildSliceE E T n s dst ds K
  | .load T x => getE E s x fun p => loadE E T s p fun d => K (s.set dst d)
  | .store T x y => getE E s x fun p => getE E s y fun d => storeE E T s p d fun s' => K (s'.set dst .undef)
  | .nilCheck x => getE E s x fun d => match d with
    | .ptr _ _ _ _ => K (s.set dst d)
    | .rp _ _ => K (s.set dst d)
    | .fn _ _ => K (s.set dst d)
    | _ => False
  | .binOp op T x y _ => match nilC y with
    | true => getE E s x fun a => nilE E op T a fun d => K (s.set dst d)
    | false => getE E s x fun a => getE E s y fun b => binE E op T a b fun d => K (s.set dst d)
  | .sliceToArrayPointer T x => getE E s x fun a => match kdE E T, a with
    | some (.array len _ n), .ro l => ∃ ds : List D, E.F.pr (fun _ => n = 1 ∧ 0 < len ∧ len ≤ l.length ∧ l.take len = ds ∧ ∀ d, d ∈ l → d.cells = [d]) ∧ K (s.set dst (.rp (.agg ds) 0))
    | _, _ => False
  | .unOp op _ x => getE E s x fun a => unE E op a fun d => K (s.set dst d)
  | .convert S T x => getE E s x fun a => convE E S T a fun d => K (s.set dst d)
  | .makeFunc (.func f) first caps => match first.toList with
    | [] => getsE E s caps.toList fun ds => K (s.set dst (.fn f ds))
    | _ => False
  | .makeSlice T n c => getE E s n fun a => getE E s c fun b => makeE E T s dst a b K
  | .slice T x lo hi none => getE E s x fun a => sliceE E T s a lo hi fun d => K (s.set dst d)
  | .fieldAddr T x f => getE E s x fun p => match fldE E T f with
    | some (off, _, _) => match p with
      | .ptr b z i j => K (s.set dst (.ptr b z i (j + off)))
      | .rp e j => K (s.set dst (.rp e (j + off)))
      | _ => False
    | none => False
  | .field T x f => getE E s x fun a => match fldE E T f with
    | some (off, g, n) => match a with
      | .agg l => match takeE g n (.agg l) off with
        | some d => K (s.set dst d)
        | none => False
      | _ => False
    | none => False
  | .indexAddr T x i => getE E s x fun a => getE E s i fun b => indexAddrE E T s a b fun d => K (s.set dst d)
  | .index T x i => getE E s x fun a => getE E s i fun b => indexE E T a b fun d => K (s.set dst d)
  | .extract x i => getE E s x fun a => match a with
    | .tup l => match l[i]? with
      | some d => K (s.set dst d)
      | none => False
    | _ => False
  | .call c => calleeE E c s dst K
  | .defer c => match c.callee with
    | .value f => match opnd E.G s f, c.args.toList with
      | some (.fn g caps), [] => K ({ s with df := (g, caps) :: s.df }.set dst .undef)
      | _, _ => False
    | _ => False
  | _ => False

def dsts : List Oper → List (Option Tmp)
  | [] => []
  | o :: l => o.dst :: dsts l
/-- The operations of a region, one after the other. -/
def opsE (E : Env) (ts : List (Option Tmp)) : List Oper → St → (St → Prop) → Prop
  | [], s, K => K s
  | o :: r, s, K => match o.guard with
    | none => opE E o.op o.dst s fun s' => opsE E ts r s' K
    | some (j, want) => match ts[j]? with
      | some (some t) => match lk s.tm t with
        | some (.bool b) => match want with
          | true => match b with
            | true => opE E o.op o.dst s fun s' => opsE E ts r s' K
            | false => opsE E ts r (s.set o.dst (.tup [])) K
          | false => match b with
            | true => opsE E ts r (s.set o.dst (.tup [])) K
            | false => opE E o.op o.dst s fun s' => opsE E ts r s' K
        | some (.tup _) => opsE E ts r (s.set o.dst (.tup [])) K
        | _ => False
      | _ => False

def seqK (K : St → Prop) (Q : Exit → St → Prop) : Exit → St → Prop
  | .normal, s => K s
  | e, s => Q e s
def blockK (id : Nat) (Q : Exit → St → Prop) : Exit → St → Prop
  | .exit i, s => if i = id then Q .normal s else Q (.exit i) s
  | e, s => Q e s
def noGotoK (Q : Exit → St → Prop) : Exit → St → Prop
  | .goto _, _ => False
  | e, s => Q e s
def condE (d : Option D) (X Y : Unit → Prop) : Prop :=
  match d with
  | some (.bool b) => match b with
    | true => X ()
    | false => Y ()
  | _ => False
/-! ### Regions that draw their order -/
/-- The operations that an operation stands behind (a mask: which of those before it). -/
def orL : List Bool → List Bool → List Bool
  | [], m => m
  | x :: l, [] => x :: l
  | x :: l, y :: m => (match x with | true => true | false => y) :: orL l m
def bitL : Nat → List Bool
  | 0 => [true]
  | n + 1 => false :: bitL n
def nthL : List (List Bool) → Nat → List Bool
  | [], _ => []
  | m :: _, 0 => m
  | _ :: l, n + 1 => nthL l n
def bindsE (e : Edge) : Bool := match e.ground with
  | .textOnly _ => false
  | .gcOnly _ => false
  | _ => true
def edgeMask (ms : List (List Bool)) : List Edge → List Bool
  | [] => []
  | e :: l => match bindsE e with
    | true => orL (orL (bitL e.on) (nthL ms e.on)) (edgeMask ms l)
    | false => edgeMask ms l
def masksE : List (List Bool) → List Oper → List (List Bool)
  | ms, [] => ms
  | ms, o :: l => masksE (ms ++ [edgeMask ms o.after.toList]) l
def edgesUp (i : Nat) : List Edge → Bool
  | [] => true
  | e :: l => match bindsE e with
    | true => (if e.on < i then edgesUp i l else false)
    | false => edgesUp i l
def lexUp : Nat → List Oper → Bool
  | _, [] => true
  | i, o :: l => match edgesUp i o.after.toList with
    | true => lexUp (i + 1) l
    | false => false
def fullMask : Nat → List Bool → Bool
  | 0, _ => true
  | _ + 1, [] => false
  | n + 1, x :: l => match x with
    | true => fullMask n l
    | false => false
/-- From operation i on each stands behind all that are before it. -/
def allFull : Nat → List (List Bool) → Bool
  | _, [] => true
  | i, m :: l => match fullMask i m with
    | true => allFull (i + 1) l
    | false => false
structure Out where
  dst : Option Tmp
  d : D
  B : Option Blk
def Out.put (r : Nat) (x : Out) (s : St) : St :=
  match x.B with
  | some B => ({ s with hp := (r, B) :: s.hp } : St).set x.dst (x.d.up r)
  | none => s.set x.dst x.d
def applyM : Nat → List Bool → List Out → St → St
  | _, _, [], s => s
  | _, [], _ :: _, s => s
  | r, b :: m, x :: l, s => match b with
    | true => applyM (r + 1) m l (x.put r s)
    | false => applyM (r + 1) m l s
def applyA : Nat → List Out → St → St
  | _, [], s => s
  | r, x :: l, s => applyA (r + 1) l (x.put r s)
def wildB (lo : Nat) (m : List Bool) (b : Nat) : Bool := if b < lo then false else match m[b - lo]? with
  | some true => false
  | _ => true
mutual
/-- d names a block from lo to below hi that is not marked (block lo + i is marked where the mask's bit i is). -/
def D.wild (lo : Nat) (m : List Bool) : D → Bool
  | .agg l => D.wildL lo m l
  | .tup l => D.wildL lo m l
  | .fn _ l => D.wildL lo m l
  | .sl b _ _ _ => wildB lo m b
  | .ptr b _ _ _ => wildB lo m b
  | .int _ _ => false
  | .bool _ => false
  | .str _ => false
  | .sc _ => false
  | .nil => false
  | .ro _ => false
  | .rp _ _ => false
  | .undef => false
def D.wildL (lo : Nat) (m : List Bool) : List D → Bool
  | [] => false
  | d :: l => match D.wild lo m d with
    | true => true
    | false => D.wildL lo m l
end
mutual
/-- The names of blocks are below n. -/
def D.lt (n : Nat) : D → Bool
  | .agg l => D.ltL n l
  | .tup l => D.ltL n l
  | .fn _ l => D.ltL n l
  | .sl b _ _ _ => decide (b < n)
  | .ptr b _ _ _ => decide (b < n)
  | .int _ _ => true
  | .bool _ => true
  | .str _ => true
  | .sc _ => true
  | .nil => true
  | .ro _ => true
  | .rp _ _ => true
  | .undef => true
def D.ltL (n : Nat) : List D → Bool
  | [] => true
  | d :: l => D.lt n d && D.ltL n l
end
/-- What a quiet operation gives: its value, and the row of its own that it makes (the value then names it 0). -/
def outE (E : Env) (o : Op) (s : St) (K : D → Option Blk → Prop) : Prop :=
  match o with
  | .move x => getE E s x fun d => K d none
  | .pick c x y => getE E s c fun d => match d with
    | .bool b => match b with
      | true => getE E s x fun dx => K dx none
      | false => getE E s y fun dy => K dy none
    | _ => False
  | .alloc T => match zeroD E T with
    | some z => K (.ptr 0 z.cells.length 0 0) (some ⟨z.cells.length, T, [z], true, true⟩)
    | none => False
  | .box T x => getE E s x fun d => if oneL d.cells = true ∧ d.free = true then K (.ptr 0 d.cells.length 0 0) (some ⟨d.cells.length, T, [d], true, true⟩) else False
  | .build T ps => partsK E s ps.toList fun ds => buildE E T ds fun d => K d none
  | .buildSlice T n ps => partsK E s ps.toList fun ds => match kdE E T with
    | some (.slice e k _ z) => match setsE k (reps n z) ds with
      | some els => match n with
        | 0 => K .nil none
        | _ + 1 => if n * k ≤ 16777216 ∧ freeAll ds = true then K (.sl 0 k 0 n) (some ⟨k, e, els, true, false⟩) else False
      | none => False
    | _ => False
  | .load T x => getE E s x fun p => loadE E T s p fun d => K d none
  | .nilCheck x => getE E s x fun d => match d with
    | .ptr _ _ _ _ => K d none
    | .rp _ _ => K d none
    | .fn _ _ => K d none
    | _ => False
  | .binOp op T x y _ => match nilC y with
    | true => False
    | false => getE E s x fun a => getE E s y fun b => binE E op T a b fun d => K d none
  | .unOp op _ x => getE E s x fun a => unE E op a fun d => K d none
  | .convert S T x => getE E s x fun a => convE E S T a fun d => K d none
  | .makeFunc (.func f) first caps => match first.toList with
    | [] => getsE E s caps.toList fun ds => K (.fn f ds) none
    | _ => False
  | .makeSlice T n c => getE E s n fun a => getE E s c fun b => match kdE E T, a, b with
    | some (.slice e z bytes d), .int _ n, .int _ c => E.F.pr (fun _ => 0 ≤ n ∧ n ≤ c ∧ c ≤ 9223372036854775807 ∧ bytes * c ≤ 140737488355328) ∧
        K (.sl 0 z 0 (E.F.ix 0 n)) (some ⟨z, e, E.F.rep n d, true, false⟩)
    | _, _, _ => False
  | .slice T x lo hi none => getE E s x fun a => sliceE E T s a lo hi fun d => K d none
  | .fieldAddr T x f => getE E s x fun p => match fldE E T f with
    | some (off, _, _) => match p with
      | .ptr b z i j => K (.ptr b z i (j + off)) none
      | .rp e j => K (.rp e (j + off)) none
      | _ => False
    | none => False
  | .field T x f => getE E s x fun a => match fldE E T f with
    | some (off, g, n) => match a with
      | .agg l => match takeE g n (.agg l) off with
        | some d => K d none
        | none => False
      | _ => False
    | none => False
  | .indexAddr T x i => getE E s x fun a => getE E s i fun b => indexAddrE E T s a b fun d => K d none
  | .index T x i => getE E s x fun a => getE E s i fun b => indexE E T a b fun d => K d none
  | .extract x i => getE E s x fun a => match a with
    | .tup l => match l[i]? with
      | some d => K d none
      | none => False
    | _ => False
  | .call c => match c.callee with
    | .builtin b => getsE E s c.args.toList fun ds => match b, c.argTypes.toList, ds with
      | .len, T :: _, [x] => lenE E T x fun d => K d none
      | .min, _, x :: l => match minmax E false x l with
        | some d => K d none
        | none => False
      | .max, _, x :: l => match minmax E true x l with
        | some d => K d none
        | none => False
      | .append, [T, T'], [x, y] => if T = T' then match kdE E T with
          | some (.slice e z bytes _) => match listE E s z y with
            | some xs => E.F.pr (fun _ => inRow s y ∧ (∀ d, d ∈ xs → d.cells.length = z)) ∧ match x with
              | .nil => E.F.pr (fun _ => xs.length * bytes ≤ 140737488355328 ∧ xs.length ≤ 9223372036854775807) ∧
                  (xs = [] → K .nil none) ∧ (xs ≠ [] → K (.sl 0 z 0 (E.F.len xs)) (some ⟨z, e, xs, true, false⟩))
              | _ => False
            | none => False
          | _ => False
        else False
      | _, _, _ => False
    | .value f => match opnd E.G s f with
      | some (.fn g caps) => getsE E s c.args.toList fun ds => match reifyL E s (ds ++ caps) with
        | some ds' => ∃ d ext, E.F.CT g ds' d ext ∧ E.F.pr (fun _ => inRowsL s (ds ++ caps) ∧ (D.freeL (ds ++ caps) = true ∨ (d.noro = true ∧ ∀ B, B ∈ ext → ∀ e, e ∈ B.els → e.dry = true))) ∧
            match ext with
            | [] => E.F.pr (fun _ => d.lt 0 = true) ∧ K d none
            | [B] => E.F.pr (fun _ => d.lt 1 = true ∧ B.flat = true) ∧ K d (some B)
            | _ => False
        | none => False
      | _ => False
    | _ => False
  | _ => False
/-- The operations of a region in the order of its text, each told by what it stands behind alone; from where each stands behind all others on, as they come. -/
def drawGo (E : Env) (ts : List (Option Tmp)) (s : St) (r0 : Nat) : Nat → List Oper → List (List Bool) → List Out → (St → Prop) → Prop
  | _, [], _, acc, K => K (applyA r0 acc s)
  | _, _ :: _, [], _, _ => False
  | i, o :: os, m :: ms, acc, K => match allFull i (m :: ms) with
    | true => opsE E ts (o :: os) (applyA r0 acc s) K
    | false =>
      let s' := applyM r0 m acc s
      let go := fun d B => match B with
        | none => match D.wild r0 m d with
          | true => False
          | false => drawGo E ts s r0 (i + 1) os ms (acc ++ [⟨o.dst, d, B⟩]) K
        | some B' => match D.lt 1 d with
          | true => match B'.flat with
            | true => drawGo E ts s r0 (i + 1) os ms (acc ++ [⟨o.dst, d, B⟩]) K
            | false => False
          | false => False
      match o.guard with
      | none => outE E o.op s' go
      | some (j, want) => match ts[j]? with
        | some (some t) => match lk s'.tm t with
          | some (.bool b) => match want with
            | true => match b with
              | true => outE E o.op s' go
              | false => go (.tup []) none
            | false => match b with
              | true => go (.tup []) none
              | false => outE E o.op s' go
          | some (.tup _) => go (.tup []) none
          | _ => False
        | _ => False
def memT (t : Nat) : List (Option Tmp) → Bool
  | [] => false
  | o :: l => match o with
    | some k => if k = t then true else memT t l
    | none => memT t l
def nodupT : List (Option Tmp) → Bool
  | [] => true
  | o :: l => match o with
    | some k => match memT k l with
      | true => false
      | false => nodupT l
    | none => nodupT l
def dropT (ts : List (Option Tmp)) : List (Nat × D) → List (Nat × D)
  | [] => []
  | (k, d) :: l => match memT k ts with
    | true => dropT ts l
    | false => (k, d) :: dropT ts l
/-- The slots of the operations that float. -/
def preT : Nat → List (Option Tmp) → List (List Bool) → List (Option Tmp)
  | _, [], _ => []
  | _, _ :: _, [] => []
  | i, t :: ts, m :: ms => match allFull i (m :: ms) with
    | true => []
    | false => t :: preT (i + 1) ts ms
/-- A store floats among the operations. -/
def floatS : Nat → List Oper → List (List Bool) → Bool
  | i, o :: os, m :: ms => match allFull i (m :: ms) with
    | true => false
    | false => match o.op with
      | .store _ _ _ => true
      | .call c => match c.callee with
        | .builtin .copy => true
        | .builtin .clear => true
        | _ => floatS (i + 1) os ms
      | _ => floatS (i + 1) os ms
  | _, _, _ => false
def getB : List Bool → Nat → Bool
  | [], _ => false
  | b :: _, 0 => b
  | _ :: l, n + 1 => getB l n
def setB : List Bool → Nat → List Bool
  | [], _ => []
  | _ :: l, 0 => true :: l
  | b :: l, n + 1 => b :: setB l n
def edgesDone (L : List Bool) : List Edge → Bool
  | [] => true
  | e :: l => match bindsE e with
    | true => match getB L e.on with
      | true => edgesDone L l
      | false => false
    | false => edgesDone L l
/-- What may come next. -/
def eachE (L : List Bool) (F : Nat → Oper → Prop) : Nat → List Oper → Prop
  | _, [] => True
  | i, o :: os => match getB L i with
    | true => eachE L F (i + 1) os
    | false => match edgesDone L o.after.toList with
      | true => F i o ∧ eachE L F (i + 1) os
      | false => eachE L F (i + 1) os
def anyE (L : List Bool) : Nat → List Oper → Bool
  | _, [] => false
  | i, o :: os => match getB L i with
    | true => anyE L (i + 1) os
    | false => match edgesDone L o.after.toList with
      | true => true
      | false => anyE L (i + 1) os
def edgeOn (i : Nat) : List Edge → Bool
  | [] => false
  | e :: l => match bindsE e with
    | true => match Nat.beq e.on i with
      | true => true
      | false => edgeOn i l
    | false => edgeOn i l
/-- Nothing that is still to come meets what operation i reads and gives, but what stands behind it. -/
def freeE (ops : List Oper) (oi : Oper) (i : Nat) (L : List Bool) : Nat → List Oper → Bool
  | _, [] => true
  | j, oj :: os => match Nat.beq j i with
    | true => freeE ops oi i L (j + 1) os
    | false => match getB L j with
      | true => freeE ops oi i L (j + 1) os
      | false => match edgeOn i oj.after.toList with
        | true => freeE ops oi i L (j + 1) os
        | false => match oi.apart ops.toArray oj with
          | true => freeE ops oi i L (j + 1) os
          | false => false
def isMove (o : Oper) : Bool := match o.guard with
  | none => match o.op with
    | .move _ => true
    | _ => false
  | some _ => false
def noSel : List Oper → Bool
  | [] => true
  | o :: l => match o.op with
    | .select _ _ => false
    | _ => noSel l
/-- A move that may come first. -/
def firstM (all : List Oper) (L : List Bool) : Nat → List Oper → Option (Nat × Oper)
  | _, [] => none
  | i, o :: os => match getB L i with
    | true => firstM all L (i + 1) os
    | false => match isMove o with
      | false => firstM all L (i + 1) os
      | true => match edgesDone L o.after.toList with
        | false => firstM all L (i + 1) os
        | true => match freeE all o i L 0 all with
          | true => some (i, o)
          | false => firstM all L (i + 1) os
/-- All orders, one by one; a move that nothing meets comes first. -/
def allE (E : Env) (ts : List (Option Tmp)) (ops : List Oper) : Nat → List Bool → St → (St → Prop) → Prop
  | 0, L, s, K => match anyE L 0 ops with
    | true => False
    | false => K s
  | n + 1, L, s, K => match anyE L 0 ops with
    | true => match firstM ops L 0 ops with
      | some (i, o) => match noSel ops with
        | true => opsE E ts [o] s fun s' => allE E ts ops n (setB L i) s' K
        | false => False
      | none => eachE L (fun i o => opsE E ts [o] s fun s' => allE E ts ops n (setB L i) s' K) 0 ops
    | false => K s
def falses : List Oper → List Bool
  | [] => []
  | _ :: l => false :: falses l
def isExtract (o : Oper) : Bool := match o.guard with
  | none => match o.op with
    | .extract _ _ => true
    | _ => false
  | some _ => false
/-- Moves and their like that nothing else meets, but what stands behind them. -/
def inertL (all : List Oper) : Nat → List Oper → List (List Bool) → List Bool
  | i, o :: os, m :: ms => (match isMove o with
    | true => freeE all o i m 0 all
    | false => match isExtract o with
      | true => freeE all o i m 0 all
      | false => false) :: inertL all (i + 1) os ms
  | _, _, _ => []
def subB : List Bool → List Bool → Bool
  | [], _ => true
  | true :: l, true :: m => subB l m
  | true :: _, _ => false
  | false :: l, _ :: m => subB l m
  | false :: l, [] => subB l []
/-- What an operation may be taken to stand behind, too: what is inert, and stands behind nothing else. -/
def closeRow : Nat → List Bool → List (List Bool) → List Bool → List Bool
  | p, b :: bs, mp :: ms, m => match b with
    | true => match subB mp m with
      | true => closeRow (p + 1) bs ms (orL m (bitL p))
      | false => closeRow (p + 1) bs ms m
    | false => closeRow (p + 1) bs ms m
  | _, _, _, m => m
def takeB : Nat → List Bool → List Bool
  | 0, _ => []
  | _ + 1, [] => []
  | n + 1, b :: l => b :: takeB n l
def closeMs (bs : List Bool) (all : List (List Bool)) : Nat → List (List Bool) → List (List Bool)
  | _, [] => []
  | i, m :: ms => closeRow 0 (takeB i bs) all m :: closeMs bs all (i + 1) ms
def masksI (ops : List Oper) : List (List Bool) := closeMs (inertL ops 0 ops (masksE [] ops)) (masksE [] ops) 0 (masksE [] ops)
def drawW (E : Env) (ms : List (List Bool)) (ops : Array Oper) (s : St) (K : St → Prop) : Prop :=
  match lexUp 0 ops.toList with
  | true => match nodupT (preT 0 (dsts ops.toList) ms) with
    | true => drawGo E (dsts ops.toList) { s with tm := dropT (preT 0 (dsts ops.toList) ms) s.tm, nx := s.nx + ops.size } s.nx 0 ops.toList ms [] K
    | false => False
  | false => False
def drawE (E : Env) (ops : Array Oper) (s : St) (K : St → Prop) : Prop :=
  match floatS 0 ops.toList (masksE [] ops.toList) with
  | false => drawW E (masksE [] ops.toList) ops s K
  | true => match noSel ops.toList with
    | true => match floatS 0 ops.toList (masksI ops.toList) with
      | false => drawW E (masksI ops.toList) ops s K
      | true => allE E (dsts ops.toList) ops.toList ops.size (falses ops.toList) s K
    | false => False
/-- What a piece of code asks, and how it ends. -/
def wpE (E : Env) : Code → St → (Exit → St → Prop) → Prop
  | .skip, s, Q => Q .normal s
  | .region _ ops d, s, Q => match d with
    | true => drawE E ops s (Q .normal)
    | false => opsE E (dsts ops.toList) ops.toList s (Q .normal)
  | .seq x y, s, Q => wpE E x s (seqK (fun s' => wpE E y s' Q) Q)
  | .cond c x y, s, Q => condE (opnd E.G s c) (fun _ => wpE E x s Q) (fun _ => wpE E y s Q)
  | .block id x, s, Q => wpE E x s (blockK id Q)
  | .loop x, s, Q => E.F.LP (fun Z s' => wpE E x s' (seqK Z Q)) s
  | .scope x, s, Q => wpE E x s (noGotoK Q)
  | .exit id, s, Q => Q (.exit id) s
  | .ret, s, Q => Q .ret s
  | .label _, s, Q => Q .normal s
  | .goto l, s, Q => Q (.goto l) s
  | _, _, _ => False

/-- A function's results. -/
def resE (E : Env) (s : St) : List ResultVar → (List D → Prop) → Prop
  | [], K => K []
  | .tmp t :: r, K => match lk s.tm t with
    | some d => resE E s r fun l => K (d :: l)
    | none => False
  | .cell t T :: r, K => match lk s.tm t with
    | some p => loadE E T s p fun d => resE E s r fun l => K (d :: l)
    | none => False
def packE : List D → D
  | [d] => d
  | l => .tup l
def argsT : Nat → List D → List (Nat × D)
  | _, [] => []
  | i, d :: l => (i, d) :: argsT (i + 1) l
def St.start (n : Nat) (ds : List D) : St := { tm := argsT 0 ds, hp := [], nx := 0, nt := n, fr := [], df := [] }
/-- What was deferred runs (one call at most). -/
def defE (E : Env) (s : St) (K : St → Prop) : Prop :=
  match s.df with
  | [] => K s
  | [(f, l)] => E.F.IC f l { s with df := [] } fun _ s' => match s'.df with
    | [] => K s'
    | _ => False
  | _ => False
def retE (E : Env) (rs : List ResultVar) (K : D → St → Prop) (e : Exit) (s : St) : Prop :=
  match e with
  | .normal => defE E s fun s' => resE E s' rs fun l => K (packE l) s'
  | .ret => defE E s fun s' => resE E s' rs fun l => K (packE l) s'
  | _ => False
/-- The state of a function that is called in place, and what it leaves to its caller. -/
def St.inner (s : St) (n : Nat) (ds : List D) : St := { tm := argsT 0 ds, hp := s.hp, nx := s.nx, nt := n, fr := s.tm :: s.fr, df := [] }
def outK (nt : Nat) (K : D → St → Prop) (d : D) (s : St) : Prop := match s.fr with
  | t :: r => K d { tm := t, hp := s.hp, nx := s.nx, nt := nt, fr := r, df := [] }
  | [] => False
end Go.Proofs.YtppmomobjjpljaaDoor.E
end

/- Part KE3. -/
section
/- A calculus for Go functions over an abstract memory (part 3): what each operation of the model does to what the calculus tells. Conditions: those of each theorem. -/
namespace Go.Proofs.YtppmomobjjpljaaDoor.E
open Go Go.RowKit
set_option linter.unusedVariables false
set_option linter.unusedSimpArgs false

/-! ### What the calculus means by its letters -/
def arI : BinOp → IntKind → Int → Int → Int
  | .add, k, a, b => k.wrap (a + b)
  | .sub, k, a, b => k.wrap (a - b)
  | .mul, k, a, b => k.wrap (a * b)
  | .quo, k, a, b => k.wrap (a.tdiv b)
  | .rem, _, a, b => a.tmod b
  | .and, k, a, b => k.wrap (BitVec.ofInt k.bits a &&& BitVec.ofInt k.bits b).toNat
  | .or, k, a, b => k.wrap (BitVec.ofInt k.bits a ||| BitVec.ofInt k.bits b).toNat
  | .xor, k, a, b => k.wrap (BitVec.ofInt k.bits a ^^^ BitVec.ofInt k.bits b).toNat
  | .andNot, k, a, b => k.wrap (BitVec.ofInt k.bits a &&& ~~~BitVec.ofInt k.bits b).toNat
  | .shl, k, a, b => k.wrap (a * 2 ^ (min b.toNat k.bits))
  | .shr, k, a, b => a.fdiv (2 ^ (min b.toNat k.bits))
  | _, _, _, _ => 0
def cmI : BinOp → Int → Int → Bool
  | .eql, a, b => a == b
  | .neq, a, b => a != b
  | .lss, a, b => decide (a < b)
  | .leq, a, b => decide (a ≤ b)
  | .gtr, a, b => decide (a > b)
  | .geq, a, b => decide (a ≥ b)
  | _, _, _ => false
def unI : UnOp → IntKind → Int → Int
  | .neg, k, n => k.wrap (0 - n)
  | .xor, k, n => k.wrap (BitVec.ofInt k.bits (if k.signed then -1 else k.max) ^^^ BitVec.ofInt k.bits n).toNat
  | _, _, _ => 0
def subL (L : List D) (i n : Nat) : List D := if i = 0 ∧ n = L.length then L else (L.drop i).take n
def cpyL (L : List D) (i n : Nat) (xs : List D) : List D := L.take i ++ xs.take n ++ L.drop (i + min n xs.length)
def clrL (L : List D) (i n : Nat) (d : D) : List D := L.take i ++ List.replicate n d ++ L.drop (i + n)
/-- A call of f goes into its body. -/
def Enters (P : Program) (f : FuncId) : Prop := ∀ args w, (callFunc f args).run P w = .ok (.enter f args) w
def Rds (φ : Nat → Nat) (M : Nat → Prop) (w : World) (n : Nat) (ds : List D) (vs : Array Value) : Prop :=
  vs.size = ds.length ∧ ∀ (i : Nat) (d : D), ds[i]? = some d → Rd φ M w n d (vs.getD i undef)
/-- THE CONTRACT: called with what ds tells, f returns what d tells, with new rows ext of its own (flat ones), and writes nothing that was there. -/
def Contract (P : Program) (G : List (Nat × D)) (f : FuncId) (ds : List D) (d : D) (ext : List Blk) : Prop :=
  Enters P f ∧ ∀ (M : Nat → Prop) (w : World) (vs : Array Value) (φ0 : Nat → Nat), (∀ k, M k → k < w.heap.size) → GRel G M w.heap.size w → Rds φ0 M w 0 ds vs →
    Calls P f vs w fun e w' => ∃ v φ, e = .returned v ∧ Below w.heap.size w w' ∧
      (∀ b B, lk (ups 0 0 ext) b = some B → b < ext.length ∧ w.heap.size ≤ φ b ∧ B.flat = true ∧ ∃ cs, BRel φ (Mut M φ (ups 0 0 ext)) w' ext.length b B cs) ∧
      (∀ b b' B B', lk (ups 0 0 ext) b = some B → lk (ups 0 0 ext) b' = some B' → φ b = φ b' → b = b') ∧
      Rd φ (Mut M φ (ups 0 0 ext)) w' ext.length d v
/-- A CALL IN PLACE: f works on the caller's own blocks (as a call, or as what was deferred). -/
def ICall (P : Program) (G : List (Nat × D)) (f : FuncId) (ds : List D) (s : St) (K : D → St → Prop) : Prop :=
  Enters P f ∧ ∀ C φ a w vs, C.G = G → Rel C φ s a w → Rds φ (Mut C.M φ s.hp) w s.nx ds vs →
    (Calls P f vs w fun e w' => ∃ v d φ' s', e = .returned v ∧ Rel C φ' s' a w' ∧ Rd φ' (Mut C.M φ' s'.hp) w' s'.nx d v ∧ K d s') ∧
    ∀ u, CallsD P f vs u w fun e u' w' => u' = u ∧ ∃ v d φ' s', e = .returned v ∧ Rel C φ' s' a w' ∧ Rd φ' (Mut C.M φ' s'.hp) w' s'.nx d v ∧ K d s'
/-- '==' of structs or arrays of one type: b is its answer, wherever they lie. -/
def EqOk (P : Program) (T : TypeId) (x y : D) (b : Bool) : Prop :=
  P.eqGuardType P.depth T = false ∧ ∀ φ M w n vx vy, Rd φ M w n x vx → Rd φ M w n y vy → (Op.equal T vx vy).run P w = .ok b w
/-- Less is known. -/
def Weak (G : List (Nat × D)) (s s' : St) : Prop := ∀ C φ a w, C.G = G → Rel C φ s a w → ∃ φ', Rel C φ' s' a w
def fns (P : Program) (G : List (Nat × D)) : Fns where
  ar := arI
  cm := cmI
  be a b := a == b
  cv k n := k.wrap n
  un := unI
  mx hi a b := if hi then (if b > a then b else a) else (if b < a then b else a)
  nat n := n
  len := List.length
  lset L i d := L.set i d
  app L K := L ++ K
  rep n d := List.replicate n.toNat d
  sub := subL
  ix o i := o + i.toNat
  sb a b := a - b
  am a b c := a + b * c
  sz := ByteArray.size
  cat a b := a ++ b
  ext t l h := t.extract l h
  seq a b := a.toList == b.toList
  u8 b := b.toNat
  pr f := f ()
  CT := Contract P G
  IC := ICall P G
  EQ := EqOk P
  WK := Weak G
  LP T s := ∀ Z : St → Prop, (∀ s K, (∀ s', K s' → Z s') → T K s → Z s) → (∀ s s', Weak G s s' → Z s' → Z s) → Z s
  mn := Nat.min
  cpy := cpyL
  clr := clrL

/-! ### Carrying -/
theorem Rd.move {φ φ' : Nat → Nat} {M M' : Nat → Prop} {w w' : World} {r n n' : Nat} {d : D} {v : Value} (h : Rd φ M w n d v) (hc : Carry φ φ' M M' w w' r n) (hr : n ≤ r) (hn : n ≤ n') : Rd φ' M' w' n' d v := by
  have := h.carry hc n' hn
  rwa [h.kill_fresh hr] at this
theorem Rd.mono {φ : Nat → Nat} {M : Nat → Prop} {w : World} {n n' : Nat} {d : D} {v : Value} (h : Rd φ M w n d v) (hn : n ≤ n') : Rd φ M w n' d v :=
  h.move (r := n) ⟨Nat.le_refl _, fun _ _ _ => rfl, fun _ _ _ => rfl, fun _ _ h => h, fun _ _ _ cs e fz h => ⟨cs, e, fz, h, rfl⟩⟩ (Nat.le_refl _) hn
theorem BRel.move {φ φ' : Nat → Nat} {M M' : Nat → Prop} {w w' : World} {r n n' b : Nat} {B : Blk} {cs : Array Value} (h : BRel φ M w n b B cs) (hc : Carry φ φ' M M' w w' r n) (hr : n ≤ r) (hn : n ≤ n')
    (hb : w'.heap[φ' b]? = w.heap[φ b]?) : BRel φ' M' w' n' b B cs :=
  ⟨hb.trans h.heap, h.size, h.zs, h.one, fun i e j d h1 h2 => by
    have := h.rd i e j d h1 h2
    cases hf : B.flat with
    | true => rw [hf] at this; exact this.move hc.zero (Nat.zero_le _) (Nat.le_refl _)
    | false => rw [hf] at this; exact this.move hc hr hn⟩
theorem Rel.move {C : Ctx} {φ φ' : Nat → Nat} {s : St} {a : Act} {w w' : World} {hp' : List (Nat × Blk)} {nx' : Nat} (h : Rel C φ s a w)
    (hc : Carry φ φ' (Mut C.M φ s.hp) (Mut C.M φ' hp') w w' s.nx s.nx) (hnx : s.nx ≤ nx') (hbel : Below C.fl w w')
    (hhp : ∀ b B, lk hp' b = some B → b < nx' ∧ C.fl ≤ φ' b ∧ ∃ cs, BRel φ' (Mut C.M φ' hp') w' nx' b B cs)
    (hinj : ∀ b b' B B', lk hp' b = some B → lk hp' b' = some B' → φ' b = φ' b' → b = b') : Rel C φ' { s with hp := hp', nx := nx' } a w' where
  nt := h.nt
  tm i d hd := (h.tm i d hd).move hc (Nat.le_refl _) hnx
  frn := h.frn
  fr i t vs h1 h2 j d hd := (h.fr i t vs h1 h2 j d hd).move hc (Nat.le_refl _) hnx
  hp := hhp
  inj := hinj
  dfn := h.dfn
  df i f l hd := by
    obtain ⟨cs, h1, h2, h3⟩ := h.df i f l hd
    exact ⟨cs, h1, h2, fun j d hj => (h3 j d hj).move hc (Nat.le_refl _) hnx⟩
  below := h.below.trans hbel
  fl := Nat.le_trans h.fl hbel.size
  M := h.M
  G := h.G

theorem Rel.put {C : Ctx} {φ : Nat → Nat} {s : St} {a : Act} {w : World} (h : Rel C φ s a w) {d : D} {v : Value} (dst : Option Tmp) (hd : Rd φ (Mut C.M φ s.hp) w s.nx d v) : Rel C φ (s.set dst d) (a.put dst v) w := by
  cases dst with
  | none => exact h
  | some i =>
    simp only [St.set, Act.put]
    by_cases hi : i < s.nt
    · rw [if_pos hi]
      refine { h with nt := by simpa using h.nt, tm := fun k e hk => ?_ }
      simp only [lk] at hk
      split at hk
      · rename_i hki
        cases hk
        subst hki
        have : (a.tmps.setIfInBounds i v).getD i undef = v := by
          have := h.nt
          simp [Array.getD, hi, this]
        rw [this]; exact hd
      · rename_i hki
        have hne : i ≠ k := hki
        have : (a.tmps.setIfInBounds i v).getD k undef = a.tmps.getD k undef := by
          simp only [Array.getD_eq_getD_getElem?]
          rw [Array.getElem?_setIfInBounds_ne hne]
        rw [this]; exact h.tm k e hk
    · rw [if_neg hi]
      refine { h with nt := by simpa using h.nt, tm := fun k e hk => ?_ }
      have hle : a.tmps.size ≤ i := by rw [h.nt]; exact Nat.le_of_not_lt hi
      have hsz : a.tmps.setIfInBounds i v = a.tmps := by
        rw [Array.setIfInBounds, dif_neg (Nat.not_lt.2 hle)]
      show Rd φ (Mut C.M φ s.hp) w s.nx e ((a.tmps.setIfInBounds i v).getD k undef)
      rw [hsz]
      exact h.tm k e hk

theorem Rel.drew {C : Ctx} {φ : Nat → Nat} {s : St} {a : Act} {w : World} (h : Rel C φ s a w) (k : Nat) : Rel C φ s a (w.drewN k) := by
  have hc : ∀ n, Carry φ φ (Mut C.M φ s.hp) (Mut C.M φ s.hp) w (w.drewN k) n n := fun n => ⟨Nat.le_refl _, fun _ _ _ => rfl, fun _ _ _ => rfl, fun _ _ h => h, fun _ _ _ cs e fz h => ⟨cs, e, fz, h, rfl⟩⟩
  exact h.move (hc _) (Nat.le_refl _) ⟨rfl, rfl, rfl, Nat.le_refl _, fun _ _ => rfl⟩ (fun b B hB => by
    obtain ⟨h1, h2, cs, h3⟩ := h.hp b B hB
    exact ⟨h1, h2, cs, h3.move (hc _) (Nat.le_refl _) (Nat.le_refl _) rfl⟩) h.inj

/-- A new block that nothing leads to. -/
theorem Rel.junk {C : Ctx} {φ : Nat → Nat} {s : St} {a : Act} {w : World} (h : Rel C φ s a w) (o : Obj) : Rel C φ s a (w.alloc o) := by
  have hc : ∀ n, Carry φ φ (Mut C.M φ s.hp) (Mut C.M φ s.hp) w (w.alloc o) n n := fun n => ⟨by simp, fun _ _ _ => rfl, fun k hk _ => Below.heap_alloc w o k hk, fun _ _ h => h, fun b hb hne cs e fz hcs => ⟨cs, e, fz, by rw [Below.heap_alloc w _ _ (Array.getElem?_eq_some_iff.1 hcs).1]; exact hcs, rfl⟩⟩
  exact h.move (hc _) (Nat.le_refl _) ⟨rfl, rfl, rfl, by simp, fun k hk => Below.heap_alloc w o k (Nat.lt_of_lt_of_le hk h.fl)⟩ (fun b B hB => by
    obtain ⟨h1, h2, cs, h3⟩ := h.hp b B hB
    exact ⟨h1, h2, cs, h3.move (hc _) (Nat.le_refl _) (Nat.le_refl _) (Below.heap_alloc w o _ (Array.getElem?_eq_some_iff.1 h3.heap).1)⟩) h.inj
def upd (φ : Nat → Nat) (n g : Nat) : Nat → Nat := fun b => if b = n then g else φ b
theorem upd_new (φ : Nat → Nat) (n g : Nat) : upd φ n g n = g := by simp [upd]
theorem upd_old (φ : Nat → Nat) {n g b : Nat} (h : b ≠ n) : upd φ n g b = φ b := by simp [upd, h]

/-- A new block. -/
theorem Rel.alloc {C : Ctx} {φ : Nat → Nat} {s : St} {a : Act} {w : World} (h : Rel C φ s a w) (B : Blk) (cs : Array Value) (hs : B.els.length * B.z ≤ cs.size) (hz : ∀ e, e ∈ B.els → e.cells.length = B.z) (h1 : ∀ v, v ∈ cs → v.oneCell' = true)
    (hr : ∀ i e j d, B.els[i]? = some e → e.cells[j]? = some d → Rd φ (Mut C.M φ s.hp) w (if B.flat then 0 else s.nx) d (cs.getD (i * B.z + j) undef)) :
    Rel C (upd φ s.nx w.heap.size) (s.new B) a (w.alloc (.cells cs B.ty)) := by
  have hcy : ∀ n, n ≤ s.nx → Carry φ (upd φ s.nx w.heap.size) (Mut C.M φ s.hp) (Mut C.M (upd φ s.nx w.heap.size) ((s.nx, B) :: s.hp)) w (w.alloc (.cells cs B.ty)) s.nx n := fun n hn =>
    ⟨by simp, fun b hb hne => upd_old φ hne, fun k hk _ => Below.heap_alloc w _ k hk, fun k hk hm => by
      rcases hm with hm | ⟨b, B', hb, he⟩
      · exact .inl hm
      · simp only [lk] at hb
        split at hb
        · rename_i hbn
          subst hbn
          rw [upd_new] at he
          omega
        · rename_i hbn
          rw [upd_old φ (Ne.symm hbn)] at he
          exact .inr ⟨b, B', hb, he⟩, fun b hb hne cs' e fz hcs => ⟨cs', e, fz, by
        rw [Below.heap_alloc w _ _ (Array.getElem?_eq_some_iff.1 hcs).1]; exact hcs, rfl⟩⟩
  refine h.move (hcy _ (Nat.le_refl _)) (Nat.le_succ _) ⟨rfl, rfl, rfl, by simp, fun k hk => Below.heap_alloc w _ k (Nat.lt_of_lt_of_le hk h.fl)⟩ (fun b B' hB => ?_) (fun b b' B1 B2 hb hb' he => ?_)
  · simp only [lk] at hB
    split at hB
    · rename_i hbn
      cases hB
      subst hbn
      refine ⟨Nat.lt_succ_self _, by rw [upd_new]; exact h.fl, cs, ⟨by rw [upd_new]; exact heap_alloc_new w _, hs, hz, h1, fun i e j d h2 h3 => ?_⟩⟩
      have := hr i e j d h2 h3
      cases hf : B.flat with
      | true => rw [hf] at this; exact this.move (hcy 0 (Nat.zero_le _)) (Nat.zero_le _) (Nat.le_refl _)
      | false => rw [hf] at this; exact this.move (hcy _ (Nat.le_refl _)) (Nat.le_refl _) (Nat.le_succ _)
    · rename_i hbn
      obtain ⟨h2, h3, cs', h4⟩ := h.hp b B' hB
      refine ⟨by omega, by rw [upd_old φ (Ne.symm hbn)]; exact h3, cs', h4.move (hcy _ (Nat.le_refl _)) (Nat.le_refl _) (Nat.le_succ _) ?_⟩
      rw [upd_old φ (Ne.symm hbn)]
      exact Below.heap_alloc w _ _ (Array.getElem?_eq_some_iff.1 h4.heap).1
  · have key : ∀ q B', lk ((s.nx, B) :: s.hp) q = some B' → q ≠ s.nx → upd φ s.nx w.heap.size q < w.heap.size := fun q B' hq hne => by
      simp only [lk] at hq
      rw [if_neg (Ne.symm hne)] at hq
      obtain ⟨_, _, cs', h4⟩ := h.hp q B' hq
      rw [upd_old φ hne]
      exact (Array.getElem?_eq_some_iff.1 h4.heap).1
    by_cases e1 : b = s.nx
    · by_cases e2 : b' = s.nx
      · rw [e1, e2]
      · have := key b' B2 hb' e2
        rw [← he, e1, upd_new] at this
        omega
    · by_cases e2 : b' = s.nx
      · have := key b B1 hb e1
        rw [he, e2, upd_new] at this
        omega
      · simp only [lk] at hb hb'
        rw [if_neg (Ne.symm e1)] at hb
        rw [if_neg (Ne.symm e2)] at hb'
        rw [upd_old φ e1, upd_old φ e2] at he
        exact h.inj b b' B1 B2 hb hb' he

/-- A block written over: its size stays. -/
theorem Rel.store {C : Ctx} {φ : Nat → Nat} {s : St} {a : Act} {w : World} (h : Rel C φ s a w) {b : Nat} {B B' : Blk} {cs cs' : Array Value} (hb : lk s.hp b = some B) (hB : BRel φ (Mut C.M φ s.hp) w s.nx b B cs) (hz : B'.z = B.z) (hty : B'.ty = B.ty)
    (hsz : cs'.size = cs.size) (hs : B'.els.length * B'.z ≤ cs'.size) (hzs : ∀ e, e ∈ B'.els → e.cells.length = B'.z) (h1 : ∀ v, v ∈ cs' → v.oneCell' = true)
    (hr : ∀ i e j d, B'.els[i]? = some e → e.cells[j]? = some d → Rd φ (Mut C.M φ s.hp) w (if B'.flat then 0 else s.nx) d (cs'.getD (i * B'.z + j) undef)) :
    Rel C φ { s with hp := hset s.hp b B' } a (w.setRow (φ b) cs') := by
  have hmut : ∀ k, Mut C.M φ (hset s.hp b B') k → Mut C.M φ s.hp k := fun k hm => by
    rcases hm with hm | ⟨q, X, hq, he⟩
    · exact .inl hm
    · rw [lk_hset] at hq
      split at hq
      · rename_i hqb; subst hqb; exact .inr ⟨q, B, hb, he⟩
      · exact .inr ⟨q, X, hq, he⟩
  have hoth : ∀ k, k ≠ φ b → (w.setRow (φ b) cs').heap[k]? = w.heap[k]? := fun k hk => setRow_other _ _ _ _ hk
  have hcy : ∀ n, n ≤ s.nx → Carry φ φ (Mut C.M φ s.hp) (Mut C.M φ (hset s.hp b B')) w (w.setRow (φ b) cs') s.nx n := fun n hn =>
    ⟨by simp [World.setRow], fun _ _ _ => rfl, fun k hk hm => hoth k (fun e => hm (.inr ⟨b, B, hb, e.symm⟩)), fun k _ hm => hmut k hm, fun q hq hne cs0 e fz hcs => by
      by_cases hqb : φ q = φ b
      · rw [hqb] at hcs ⊢
        rw [hB.heap] at hcs
        cases hcs
        exact ⟨cs', B.ty, (0, 0), setRow_heap _ _ _ _ _ _ hB.heap, hsz⟩
      · exact ⟨cs0, e, fz, (hoth _ hqb).trans hcs, rfl⟩⟩
  refine h.move (hcy _ (Nat.le_refl _)) (Nat.le_refl _) ⟨rfl, rfl, rfl, by simp [World.setRow], fun k hk => hoth k (fun e => ?_)⟩ (fun q X hX => ?_) (fun q q' X Y hX hY he => ?_)
  · have := (h.hp b B hb).2.1
    omega
  · rw [lk_hset] at hX
    split at hX
    · rename_i hqb
      subst hqb
      rw [hb] at hX
      cases hX
      refine ⟨(h.hp q B hb).1, (h.hp q B hb).2.1, cs', ⟨by rw [hty]; exact setRow_heap _ _ _ _ _ _ hB.heap, hs, hzs, h1, fun i e j d h2 h3 => ?_⟩⟩
      have := hr i e j d h2 h3
      cases hf : B'.flat with
      | true => rw [hf] at this; exact this.move (hcy 0 (Nat.zero_le _)) (Nat.zero_le _) (Nat.le_refl _)
      | false => rw [hf] at this; exact this.move (hcy _ (Nat.le_refl _)) (Nat.le_refl _) (Nat.le_refl _)
    · rename_i hqb
      obtain ⟨h2, h3, cs0, h4⟩ := h.hp q X hX
      exact ⟨h2, h3, cs0, h4.move (hcy _ (Nat.le_refl _)) (Nat.le_refl _) (Nat.le_refl _) (hoth _ (fun e => hqb (h.inj q b X B hX hb e)))⟩
  · rw [lk_hset] at hX hY
    have f : ∀ z Z, (if z = b then (lk s.hp b).map (fun _ => B') else lk s.hp z) = some Z → ∃ Z', lk s.hp z = some Z' := fun z Z hZ => by
      split at hZ
      · rename_i e; subst e; exact ⟨B, hb⟩
      · exact ⟨Z, hZ⟩
    obtain ⟨X', hX'⟩ := f q X hX
    obtain ⟨Y', hY'⟩ := f q' Y hY
    exact h.inj q q' X' Y' hX' hY' he
end Go.Proofs.YtppmomobjjpljaaDoor.E
end

/- Part KE4. -/
section
/- A calculus for Go functions over an abstract memory (part 4): loads, stores, zero values. Conditions: those of each theorem. -/
namespace Go.Proofs.YtppmomobjjpljaaDoor.E
open Go Go.RowKit
set_option linter.unusedVariables false
set_option linter.unusedSimpArgs false

variable {P : Program} {φ : Nat → Nat} {M : Nat → Prop} {w : World} {n : Nat}

theorem one_rd {d : D} {v : Value} (h : Rd φ M w n d v) (h1 : d.one = true) : v.oneCell' = true := by
  cases h <;> first | rfl | (simp [D.one] at h1; done) | (rename_i h; revert h; cases v <;> simp [okSc, Value.oneCell'])
theorem oneL_get {l : List D} (h : oneL l = true) {i : Nat} {d : D} (hd : l[i]? = some d) : d.one = true := by
  induction l generalizing i with
  | nil => simp at hd
  | cons x l ih =>
    simp only [oneL, Bool.and_eq_true] at h
    cases i with
    | zero => simp at hd; rw [← hd]; exact h.1
    | succ i => exact ih h.2 (by simpa using hd)
/-- A value's cells are told by the cells of what tells it. -/
theorem cells_rd {x : D} {v : Value} (h : Rd φ M w n x v) (h1 : oneL x.cells = true) :
    v.cells.size = x.cells.length ∧ ∀ i d, x.cells[i]? = some d → Rd φ M w n d (v.cells.getD i undef) ∧ (v.cells.getD i undef).oneCell' = true := by
  have key : ∀ (y : D) (u : Value), Rd φ M w n y u → y.one = true → y.cells = [y] → u.cells = #[u] → u.cells.size = y.cells.length ∧ ∀ i d, y.cells[i]? = some d → Rd φ M w n d (u.cells.getD i undef) ∧ (u.cells.getD i undef).oneCell' = true := by
    intro y u hy hy1 hc hu
    rw [hc, hu]
    refine ⟨rfl, fun i d hd => ?_⟩
    cases i with
    | zero => simp at hd; rw [← hd]; exact ⟨hy, one_rd hy hy1⟩
    | succ i => simp at hd
  cases h with
  | agg hn h =>
    refine ⟨hn, fun i d hd => ⟨h i d hd, ?_⟩⟩
    exact one_rd (h i d hd) (oneL_get h1 hd)
  | tup hn h => simp [D.cells, oneL, D.one] at h1
  | undef => simp [D.cells, oneL, D.one] at h1
  | sc hv => exact key _ _ (.sc hv) rfl rfl (by revert hv; cases v <;> simp [okSc, Value.cells])
  | int => exact key _ _ .int rfl rfl rfl
  | bool => exact key _ _ .bool rfl rfl rfl
  | str => exact key _ _ .str rfl rfl rfl
  | nil => exact key _ _ .nil rfl rfl rfl
  | roE h => exact key _ _ (.roE h) rfl rfl rfl
  | ro g k1 k2 k3 k4 k5 k6 k7 k8 => exact key _ _ (.ro g k1 k2 k3 k4 k5 k6 k7 k8) rfl rfl rfl
  | rp g k1 k2 k3 k4 => exact key _ _ (.rp g k1 k2 k3 k4) rfl rfl rfl
  | sl k1 k2 k3 k4 k5 => exact key _ _ (.sl k1 k2 k3 k4 k5) rfl rfl rfl
  | ptr k1 => exact key _ _ (.ptr k1) rfl rfl rfl
  | fn hn h => exact key _ _ (.fn hn h) rfl rfl rfl

theorem freeL_get {l : List D} (h : D.freeL l = true) {i : Nat} {d : D} (hd : l[i]? = some d) : d.free = true := by
  induction l generalizing i with
  | nil => simp at hd
  | cons x l ih =>
    simp only [D.freeL, Bool.and_eq_true] at h
    cases i with
    | zero => simp at hd; rw [← hd]; exact h.1
    | succ i => exact ih h.2 (by simpa using hd)
theorem free_rd {d : D} {v : Value} (h : Rd φ M w n d v) : d.free = true → Rd φ M w 0 d v := by
  induction h with
  | int => intro _; exact .int
  | bool => intro _; exact .bool
  | str => intro _; exact .str
  | sc h => intro _; exact .sc h
  | nil => intro _; exact .nil
  | roE h => intro _; exact .roE h
  | ro g h1 h2 h3 h4 h5 h6 h7 h8 => intro _; exact .ro g h1 h2 h3 h4 h5 h6 h7 h8
  | rp g h1 h2 h3 h4 => intro _; exact .rp g h1 h2 h3 h4
  | sl => intro hf; simp [D.free] at hf
  | ptr => intro hf; simp [D.free] at hf
  | undef => intro _; exact .undef
  | agg hn h ih => intro hf; exact .agg hn fun i d hd => ih i d hd (freeL_get (by simpa [D.free] using hf) hd)
  | tup hn h ih => intro hf; exact .tup hn fun i d hd => ih i d hd (freeL_get (by simpa [D.free] using hf) hd)
  | fn hn h ih => intro hf; exact .fn hn fun i d hd => ih i d hd (freeL_get (by simpa [D.free] using hf) hd)
theorem free_cells {x : D} (h : x.free = true) {i : Nat} {d : D} (hd : x.cells[i]? = some d) : d.free = true := by
  cases x with
  | agg l => exact freeL_get (l := l) (by simpa [D.free] using h) hd
  | _ =>
    cases i with
    | zero => simp [D.cells] at hd; rw [← hd]; exact h
    | succ i => simp [D.cells] at hd

/-! ### Constants and zero values -/
theorem ofVal_rd {v : Value} {d : D} (h : ofVal v = some d) : Rd φ M w n d v := by
  unfold ofVal at h
  split at h <;> first | (cases h; first | exact .int | exact .bool | exact .str | exact .nil | exact .sc rfl) | cases h
theorem ofVal_one {v : Value} {d : D} (h : ofVal v = some d) : d.one = true ∧ d.free = true ∧ v.cells = #[v] ∧ d.cells = [d] := by
  unfold ofVal at h
  split at h <;> first | (cases h; exact ⟨rfl, rfl, rfl, rfl⟩) | cases h
theorem ofVals_rd : ∀ {l : List Value} {r : List D}, ofVals l = some r → l.length = r.length ∧ (∀ (i : Nat) (d : D), r[i]? = some d → ∃ v, l[i]? = some v ∧ ofVal v = some d)
  | [], r, h => by cases h; exact ⟨rfl, fun i d hd => by simp at hd⟩
  | v :: l, r, h => by
    simp only [ofVals] at h
    split at h
    · rename_i d q h1 h2
      cases h
      obtain ⟨h3, h4⟩ := ofVals_rd h2
      refine ⟨by simp [h3], fun i e he => ?_⟩
      cases i with
      | zero => simp at he; rw [← he]; exact ⟨v, rfl, h1⟩
      | succ i => exact h4 i e (by simpa using he)
    · cases h
theorem oneL_of {l : List D} (h : ∀ (i : Nat) (d : D), l[i]? = some d → d.one = true) : oneL l = true := by
  induction l with
  | nil => rfl
  | cons x l ih => simp only [oneL, Bool.and_eq_true]; exact ⟨h 0 x rfl, ih fun i d hd => h (i + 1) d (by simpa using hd)⟩
theorem freeL_of {l : List D} (h : ∀ (i : Nat) (d : D), l[i]? = some d → d.free = true) : D.freeL l = true := by
  induction l with
  | nil => rfl
  | cons x l ih => simp only [D.freeL, Bool.and_eq_true]; exact ⟨h 0 x rfl, ih fun i d hd => h (i + 1) d (by simpa using hd)⟩
/-- The zero value of a type: what tells it, and that it is free of memory. -/
theorem zero_rd {T : TypeId} {z : D} (h : zeroP P T = some z) : ∃ i v, P.info? T = some i ∧ i.zero = some v ∧ oneL z.cells = true ∧ z.free = true ∧ ∀ φ M w n, Rd φ M w n z v := by
  unfold zeroP at h
  split at h
  · rename_i i hi
    split at h
    · rename_i cs hz
      rw [Option.map_eq_some_iff] at h
      obtain ⟨l, hl, rfl⟩ := h
      obtain ⟨h3, h4⟩ := ofVals_rd hl
      refine ⟨i, _, hi, hz, oneL_of fun j d hd => ?_, ?_, fun φ M w n => .agg (by simpa using h3) fun j d hd => ?_⟩
      · obtain ⟨v, _, hv⟩ := h4 j d hd; exact (ofVal_one hv).1
      · simp only [D.free]; exact freeL_of fun j d hd => by obtain ⟨v, _, hv⟩ := h4 j d hd; exact (ofVal_one hv).2.1
      · obtain ⟨v, h5, hv⟩ := h4 j d hd
        have : cs.getD j undef = v := by rw [Array.getD_eq_getD_getElem?, ← Array.getElem?_toList, h5]; rfl
        rw [this]; exact ofVal_rd hv
    · rename_i v hz hne
      refine ⟨i, v, hi, hne, ?_, (ofVal_one h).2.1, fun φ M w n => ofVal_rd h⟩
      rw [(ofVal_one h).2.2.2]
      simp [oneL, (ofVal_one h).1]
    · cases h
  · cases h

/-! ### Loads -/
theorem szP_spec {T : TypeId} {g : Bool} {k : Nat} (h : szP P T = some (g, k)) : ∃ d i, P.underlying T = some d ∧ P.info? T = some i ∧ i.size = k ∧ ∀ w, (isAgg T).run P w = .ok g w := by
  unfold szP at h
  split at h
  · rename_i d i h1 h2
    cases h
    refine ⟨d, i, h1, h2, rfl, fun w => ?_⟩
    simp only [isAgg, Sem.run_bind, run_underlying h1, Result.andThen_ok]
    split <;> simp_all
  · cases h
theorem run_sizeP {T : TypeId} {i : TypeInfo} (h : P.info? T = some i) (w : World) : (sizeOf T).run P w = .ok i.size w := by
  simp [sizeOf, typeInfo, h]
theorem add_plain (k o j : Nat) : (⟨k, o, none⟩ : Addr).add j = ⟨k, o + j, none⟩ := by
  unfold Addr.add; split
  · rename_i h; subst h; rfl
  · rfl
theorem takeL_spec : ∀ {k : Nat} {l r : List D}, takeL k l = some r → r.length = k ∧ ∀ i, i < k → l[i]? = r[i]?
  | 0, _, r, h => by cases h; exact ⟨rfl, fun i hi => absurd hi (Nat.not_lt_zero i)⟩
  | k + 1, [], _, h => by cases h
  | k + 1, d :: l, r, h => by
    simp only [takeL] at h
    split at h
    · rename_i q hq
      cases h
      obtain ⟨h1, h2⟩ := takeL_spec hq
      refine ⟨by simp [h1], fun i hi => ?_⟩
      cases i with
      | zero => rfl
      | succ i => simpa using h2 i (by omega)
    · cases h
theorem dropL_get : ∀ (j : Nat) (l : List D) (i : Nat), (dropL j l)[i]? = l[j + i]?
  | 0, l, i => by simp [dropL]
  | j + 1, [], i => by simp [dropL]
  | j + 1, d :: l, i => by rw [dropL, dropL_get j l i, show j + 1 + i = (j + i) + 1 by omega]; rfl
/-- What is loaded at an address whose cells are told. -/
theorem load_rd {T : TypeId} {g : Bool} {k : Nat} (hsz : szP P T = some (g, k)) {e : D} {j q o : Nat} {x : D} (hx : takeE g k e j = some x)
    (hc : ∀ i d, e.cells[i]? = some d → ∃ u, w.cell? ⟨q, o + i, none⟩ = some u ∧ Rd φ M w n d u) : ∃ v, (loadVar T ⟨q, o + j, none⟩).run P w = .ok v w ∧ Rd φ M w n x v := by
  obtain ⟨d, i, h1, h2, h3, h4⟩ := szP_spec hsz
  cases g with
  | false =>
    simp only [takeE] at hx
    split at hx
    · rename_i y r hy
      cases hx
      have : e.cells[j]? = some x := by have := dropL_get j e.cells 0; rw [hy] at this; simpa using this.symm
      obtain ⟨u, h5, h6⟩ := hc j x this
      exact ⟨u, by simp [loadVar, h4, h5], h6⟩
    · cases hx
  | true =>
    simp only [takeE] at hx
    split at hx
    · rename_i l hl
      cases hx
      obtain ⟨h5, h6⟩ := takeL_spec hl
      have h7 : ∀ i, i < k → ∃ u, w.cell? ⟨q, o + j + i, none⟩ = some u ∧ ∀ d, l[i]? = some d → Rd φ M w n d u := fun i hi => by
        have h8 := h6 i hi
        rw [dropL_get] at h8
        have hli : i < l.length := by omega
        obtain ⟨u, h9, h10⟩ := hc (j + i) l[i] (by rw [h8]; exact List.getElem?_eq_getElem hli)
        refine ⟨u, by rw [Nat.add_assoc]; exact h9, fun d hd => ?_⟩
        rw [List.getElem?_eq_getElem hli] at hd
        cases hd
        exact h10
      have h8 : ∀ i, ∃ u, i < k → w.cell? ⟨q, o + j + i, none⟩ = some u ∧ ∀ d, l[i]? = some d → Rd φ M w n d u := fun i => by
        by_cases hi : i < k
        · obtain ⟨u, hu⟩ := h7 i hi; exact ⟨u, fun _ => hu⟩
        · exact ⟨undef, fun h => absurd h hi⟩
      obtain ⟨f, hf⟩ := Classical.axiomOfChoice h8
      have h9 := run_loadCells (P := P) w ⟨q, o + j, none⟩ k f (fun i hi => by rw [add_plain]; exact (hf i hi).1)
      refine ⟨.agg ((List.range k).map f).toArray, ?_, .agg (by simp [h5]) fun i d hd => ?_⟩
      · simp [loadVar, h4, run_sizeP h2, h3, h9]
      · have hi : i < k := by rw [← h5]; exact (List.getElem?_eq_some_iff.1 hd).1
        have : ((List.range k).map f).toArray.getD i undef = f i := by simp [Array.getD, hi]
        rw [this]
        exact (hf i hi).2 d hd
    · cases hx
/-- The element that a pointer leads to. -/
theorem elem_rd {C : Ctx} {s : St} {a : Act} {p : D} {v : Value} {K : D → Nat → Prop} (hR : Rel C φ s a w) (h : elemE s p K) (hp : Rd φ (Mut C.M φ s.hp) w s.nx p v) :
    ∃ e j q o, K e j ∧ v = .pointer (some ⟨q, o + j, none⟩) ∧ ∀ i d, e.cells[i]? = some d → ∃ u, w.cell? ⟨q, o + i, none⟩ = some u ∧ Rd φ (Mut C.M φ s.hp) w s.nx d u := by
  unfold elemE at h
  split at h
  · rename_i b z i j
    cases hp with
    | ptr hb =>
      split at h
      · rename_i B hB
        split at h
        · rename_i hz
          obtain ⟨h1, h2, cs, h3⟩ := hR.hp b B hB
          have main : ∀ e, B.els[i]? = some e → ∀ i' d, e.cells[i']? = some d → ∃ u, w.cell? ⟨φ b, i * z + i', none⟩ = some u ∧ Rd φ (Mut C.M φ s.hp) w s.nx d u := by
            intro e he i' d hd
            have h4 := h3.rd i e i' d he hd
            have hlt : i < B.els.length := (List.getElem?_eq_some_iff.1 he).1
            have hlt' : i' < z := by
              have := h3.zs e (List.mem_of_getElem? he)
              have := (List.getElem?_eq_some_iff.1 hd).1
              omega
            have hin : i * z + i' < cs.size := by
              have := h3.size
              have h5 : (i + 1) * z ≤ B.els.length * z := Nat.mul_le_mul_right _ hlt
              rw [Nat.add_mul] at h5
              rw [hz] at this
              omega
            refine ⟨cs.getD (i * z + i') undef, ?_, ?_⟩
            · rw [cell_of_row w (φ b) _ cs B.ty (0, 0) h3.heap, Array.getElem?_eq_getElem hin]
              simp [Array.getD, hin]
            · rw [hz] at h4
              cases hf : B.flat with
              | true => rw [hf] at h4; exact h4.mono (Nat.zero_le _)
              | false => rw [hf] at h4; exact h4
          split at h
          · split at h
            · rename_i he
              exact ⟨_, j, φ b, 0 * z, h, rfl, main _ (by rw [he]; rfl)⟩
            · exact h.elim
          · obtain ⟨e, he, hk⟩ := h
            exact ⟨e, j, φ b, i * z, hk, rfl, main e he⟩
        · exact h.elim
      · exact h.elim
  · rename_i e j
    cases hp with
    | rp g hM hk hw hh => exact ⟨e, j, _, _, h, rfl, fun i d hd => ⟨g i, hw i d hd, (hh i d hd).mono (Nat.zero_le _)⟩⟩
  · exact h.elim
end Go.Proofs.YtppmomobjjpljaaDoor.E
end

/- Part KE5. -/
section
/- A calculus for Go functions over an abstract memory (part 5): stores, new blocks. Conditions: those of each theorem. -/
namespace Go.Proofs.YtppmomobjjpljaaDoor.E
open Go Go.RowKit
set_option linter.unusedVariables false
set_option linter.unusedSimpArgs false

/-- The proof's table and letters are the program's. -/
structure EnvOk (P : Program) (E : Env) : Prop where
  F : E.F = fns P E.G
  tys : ∀ T x, E.tys T = some x → TyOk P T x
variable {P : Program} {E : Env} {φ : Nat → Nat} {w : World} {C : Ctx} {s : St} {a : Act}

theorem EnvOk.sz (h : EnvOk P E) {T : TypeId} {y : Bool × Nat} (hy : szE E T = some y) : szP P T = some y := by
  unfold szE at hy
  split at hy
  · rename_i x hx; cases hy; exact (h.tys T x hx).1
  · cases hy
theorem EnvOk.zero (h : EnvOk P E) {T : TypeId} {y : D} (hy : zeroD E T = some y) : zeroP P T = some y := by
  unfold zeroD at hy
  split at hy
  · rename_i x hx; exact (h.tys T x hx).2.1 y hy
  · cases hy
theorem EnvOk.kd (h : EnvOk P E) {T : TypeId} {y : Kd} (hy : kdE E T = some y) : kdP P T = some y := by
  unfold kdE at hy
  split at hy
  · rename_i x hx; exact (h.tys T x hx).2.2.1 y hy
  · cases hy
theorem EnvOk.fld (h : EnvOk P E) {T : TypeId} {f : Nat} {y : Nat × Bool × Nat} (hy : fldE E T f = some y) : fldP P T f = some y := by
  unfold fldE at hy
  split at hy
  · rename_i x hx; exact (h.tys T x hx).2.2.2 f y hy
  · cases hy

theorem patch_len : ∀ (l : List D) (j : Nat) (xs : List D), (patch l j xs).length = l.length
  | [], _, _ => rfl
  | c :: l, j + 1, xs => by simp [patch, patch_len l j xs]
  | c :: l, 0, [] => rfl
  | _ :: l, 0, x :: xs => by simp [patch, patch_len l 0 xs]
theorem patch_get : ∀ (l : List D) (j : Nat) (xs : List D) (q : Nat), j + xs.length ≤ l.length → (patch l j xs)[q]? = if j ≤ q ∧ q < j + xs.length then xs[q - j]? else l[q]?
  | [], j, xs, q, h => by
    have h' : j + xs.length ≤ 0 := h
    have : xs = [] := List.eq_nil_of_length_eq_zero (by omega)
    subst this
    simp [patch]
  | c :: l, j + 1, xs, q, h => by
    cases q with
    | zero => simp [patch]
    | succ q =>
      simp only [patch, List.getElem?_cons_succ]
      rw [patch_get l j xs q (by simp at h; omega)]
      by_cases hc : j ≤ q ∧ q < j + xs.length
      · rw [if_pos hc, if_pos (by omega), show q + 1 - (j + 1) = q - j by omega]
      · rw [if_neg hc, if_neg (by omega)]
  | c :: l, 0, [], q, h => by simp [patch]
  | c :: l, 0, x :: xs, q, h => by
    cases q with
    | zero => simp [patch]
    | succ q =>
      simp only [patch, List.getElem?_cons_succ]
      rw [patch_get l 0 xs q (by simp at h; omega)]
      by_cases hc : q < xs.length
      · rw [if_pos (by omega), if_pos (by simp; omega)]; simp
      · rw [if_neg (by omega), if_neg (by simp; omega)]
theorem put1_len {e x : D} {j : Nat} (h : j + x.cells.length ≤ e.cells.length) : (put1 e j x).cells.length = e.cells.length := by
  unfold put1
  split
  · rename_i hc; exact hc.2
  · simp [D.cells, patch_len]
theorem put1_get {e x : D} {j : Nat} (h : j + x.cells.length ≤ e.cells.length) (q : Nat) : (put1 e j x).cells[q]? = if j ≤ q ∧ q < j + x.cells.length then x.cells[q - j]? else e.cells[q]? := by
  unfold put1
  split
  · rename_i hc
    obtain ⟨rfl, hc⟩ := hc
    by_cases hq : q < x.cells.length
    · rw [if_pos (by omega)]; simp
    · rw [if_neg (by omega), List.getElem?_eq_none (by omega), List.getElem?_eq_none (by omega)]
  · show (patch e.cells j x.cells)[q]? = _
    exact patch_get _ _ _ _ h
theorem splice_get (cs vs : List Value) (o q : Nat) (h : o + vs.length ≤ cs.length) : (cs.take o ++ vs ++ cs.drop (o + vs.length))[q]? = if o ≤ q ∧ q < o + vs.length then vs[q - o]? else cs[q]? := by
  have hto : (cs.take o).length = o := by simp; omega
  by_cases h1 : q < o
  · rw [if_neg (by omega), List.append_assoc, List.getElem?_append_left (by omega), List.getElem?_take_of_lt h1]
  · by_cases h2 : q < o + vs.length
    · rw [if_pos (by omega), List.getElem?_append_left (by simp; omega), List.getElem?_append_right (by omega), hto]
    · rw [if_neg (by omega), List.getElem?_append_right (by simp; omega), List.getElem?_drop]
      congr 1
      simp
      omega
theorem mul_lt {i k z j : Nat} (h : i < k) (hj : j < z) : i * z + j < k * z := by
  have : (i + 1) * z ≤ k * z := Nat.mul_le_mul_right _ h
  rw [Nat.add_mul] at this
  omega
theorem mul_apart {i i' z j j' : Nat} (h : i ≠ i') (hj : j < z) (hj' : j' < z) : i * z + j ≠ i' * z + j' := by
  rcases Nat.lt_or_gt_of_ne h with h | h
  · have := mul_lt h hj; omega
  · have := mul_lt h hj'; omega

/-- A store into an element. -/
theorem store_core (hR : Rel C φ s a w) {b z i j m : Nat} {B : Blk} {e x : D} {vx : Value} {T : TypeId} {g : Bool} (hsz : szP P T = some (g, m)) (hb : lk s.hp b = some B) (hz : B.z = z) (hl : x.cells.length = m) (hj : j + m ≤ z) (h1 : oneL x.cells = true)
    (he : B.els[i]? = some e) (hx : Rd φ (Mut C.M φ s.hp) w s.nx x vx) :
    ∃ w', (Instr.storeAt T (.pointer (some ⟨φ b, i * z + j, none⟩)) vx).run P w = .ok () w' ∧ Rel C φ { s with hp := hset s.hp b { B with els := B.els.set i (put1 e j x), flat := B.flat && x.free } } a w' := by
  obtain ⟨d, ti, hu, hi, hsize, _⟩ := szP_spec hsz
  obtain ⟨h2, h3, cs, hB⟩ := hR.hp b B hb
  obtain ⟨hvn, hvr⟩ := cells_rd hx h1
  have hil : i < B.els.length := (List.getElem?_eq_some_iff.1 he).1
  have hez : e.cells.length = z := by rw [hB.zs e (List.mem_of_getElem? he), hz]
  have hfit : i * z + j + m ≤ cs.size := by
    have := hB.size
    rw [hz] at this
    have h4 : (i + 1) * z ≤ B.els.length * z := Nat.mul_le_mul_right _ hil
    rw [Nat.add_mul] at h4
    omega
  have hvl : vx.cells.toList.length = m := by simp [hvn, hl]
  have hv1 : ∀ v ∈ vx.cells.toList, v.oneCell' = true := fun v hv => by
    obtain ⟨q, hq, rfl⟩ := List.getElem_of_mem hv
    have hq' : q < x.cells.length := by rw [hvl] at hq; omega
    have := (hvr q _ (List.getElem?_eq_getElem hq')).2
    have hq2 : q < vx.cells.size := by simpa using hq
    rw [Array.getD, dif_pos hq2] at this
    simpa using this
  have hrun := run_storeCells_at P (φ b) (i * z + j) B.ty vx.cells.toList 0 cs w hB.heap (by rw [hvl]; omega) hv1
  rw [Nat.add_zero, hvl] at hrun
  refine ⟨w.setRow (φ b) (cs.toList.take (i * z + j) ++ vx.cells.toList ++ cs.toList.drop (i * z + j + m)).toArray, ?_, ?_⟩
  · have hvs : vx.cells.size = ti.size := by rw [hsize, ← hl]; exact hvn
    simp only [Instr.storeAt, Instr.sureAddr, storeVar, Sem.run_bind, Sem.run_pure, Result.andThen_ok, run_sizeP hi]
    simp [hvs, hrun]
  · have hsp : ∀ q, (cs.toList.take (i * z + j) ++ vx.cells.toList ++ cs.toList.drop (i * z + j + m))[q]? = if i * z + j ≤ q ∧ q < i * z + j + m then vx.cells.toList[q - (i * z + j)]? else cs.toList[q]? := fun q => by
      have := splice_get cs.toList vx.cells.toList (i * z + j) q (by rw [hvl]; simpa using hfit)
      rw [hvl] at this
      exact this
    have hgd : ∀ q, (cs.toList.take (i * z + j) ++ vx.cells.toList ++ cs.toList.drop (i * z + j + m)).toArray.getD q undef = if i * z + j ≤ q ∧ q < i * z + j + m then vx.cells.getD (q - (i * z + j)) undef else cs.getD q undef := fun q => by
      rw [Array.getD_eq_getD_getElem?, List.getElem?_toArray, hsp]
      split
      · rw [Array.getD_eq_getD_getElem?, Array.getElem?_toList]
      · rw [Array.getD_eq_getD_getElem?, Array.getElem?_toList]
    have hlen : (cs.toList.take (i * z + j) ++ vx.cells.toList ++ cs.toList.drop (i * z + j + m)).toArray.size = cs.size := by
      have hvm : vx.cells.size = m := by simpa using hvl
      simp only [List.size_toArray, List.length_append, List.length_take, List.length_drop, Array.length_toList]
      omega
    refine hR.store (B := B) (cs := cs) hb hB rfl rfl hlen (by rw [hlen]; simpa using hB.size) (fun e' he' => ?_) (fun v hv => ?_) (fun i' e' j' d' he' hd' => ?_)
    · rcases List.mem_or_eq_of_mem_set he' with he' | rfl
      · exact hB.zs e' he'
      · rw [put1_len (by omega), hez]; exact hz.symm
    · have hv : v ∈ cs.toList.take (i * z + j) ++ vx.cells.toList ++ cs.toList.drop (i * z + j + m) := by simpa using hv
      rcases List.mem_append.1 hv with hv | hv
      · rcases List.mem_append.1 hv with hv | hv
        · exact hB.one v (by simpa using List.mem_of_mem_take hv)
        · exact hv1 v hv
      · exact hB.one v (by simpa using List.mem_of_mem_drop hv)
    · simp only at he' hd' ⊢
      rw [hgd]
      have hold : ∀ e2 d2, B.els[i']? = some e2 → e2.cells[j']? = some d2 → Rd φ (Mut C.M φ s.hp) w (if (B.flat && x.free) = true then 0 else s.nx) d2 (cs.getD (i' * B.z + j') undef) := fun e2 d2 h4 h5 => by
        have := hB.rd i' e2 j' d2 h4 h5
        cases hf : B.flat with
        | true =>
          rw [hf] at this
          cases hxf : x.free with
          | true => exact this
          | false => exact this.mono (Nat.zero_le _)
        | false => rw [hf] at this; exact this
      by_cases hii : i' = i
      · subst hii
        rw [List.getElem?_set_self (by omega)] at he'
        cases he'
        rw [put1_get (by omega)] at hd'
        by_cases hc : j ≤ j' ∧ j' < j + x.cells.length
        · rw [if_pos hc] at hd'
          have hin : i' * z + j ≤ i' * B.z + j' ∧ i' * B.z + j' < i' * z + j + m := by rw [hz]; omega
          rw [if_pos hin]
          have h6 := (hvr (j' - j) d' hd').1
          rw [show i' * B.z + j' - (i' * z + j) = j' - j by rw [hz]; omega]
          cases hxf : x.free with
          | true =>
            have := free_rd h6 (free_cells hxf hd')
            cases hf : B.flat with
            | true => exact this
            | false => exact this.mono (Nat.zero_le _)
          | false => simp only [Bool.and_false]; exact h6
        · rw [if_neg hc] at hd'
          have hin : ¬ (i' * z + j ≤ i' * B.z + j' ∧ i' * B.z + j' < i' * z + j + m) := by rw [hz]; omega
          rw [if_neg hin]
          exact hold e d' he hd'
      · rw [List.getElem?_set_ne (fun h => hii h.symm)] at he'
        have hj' : j' < z := by
          have := hB.zs e' (List.mem_of_getElem? he')
          have := (List.getElem?_eq_some_iff.1 hd').1
          omega
        have hin : ¬ (i * z + j ≤ i' * B.z + j' ∧ i' * B.z + j' < i * z + j + m) := by
          rw [hz]
          intro hc
          have := mul_apart (z := z) (j := i' * z + j' - i * z) (j' := j') (fun h => hii h.symm) (by omega) hj'
          omega
        rw [if_neg hin]
        exact hold e' d' he' hd'
theorem store_rd (hE : EnvOk P E) (hR : Rel C φ s a w) {T : TypeId} {p x : D} {vp vx : Value} {K : St → Prop} (h : storeE E T s p x K) (hp : Rd φ (Mut C.M φ s.hp) w s.nx p vp) (hx : Rd φ (Mut C.M φ s.hp) w s.nx x vx) :
    ∃ w' s', (Instr.storeAt T vp vx).run P w = .ok () w' ∧ Rel C φ s' a w' ∧ K s' := by
  unfold storeE at h
  split at h
  · rename_i g m b z i j hsz
    cases hp with
    | ptr hb =>
      split at h
      · rename_i B hB
        split at h
        · rename_i hc
          obtain ⟨hz, hl, hj, h1⟩ := hc
          have core := fun (e : D) (he : B.els[i]? = some e) => store_core (P := P) hR (hE.sz hsz) hB hz hl hj h1 (e := e) (i := i) he hx
          split at h
          · split at h
            · rename_i hels
              obtain ⟨w', h2, h3⟩ := core _ (by rw [hels]; rfl)
              rw [hels] at h3
              exact ⟨w', _, h2, h3, h⟩
            · exact h.elim
          · split at h
            · rename_i hc
              obtain ⟨hlt, hk⟩ := h
              rw [hE.F] at hlt hk
              have hlt : i < B.els.length := hlt
              obtain ⟨w', h2, h3⟩ := core B.els[i] (List.getElem?_eq_getElem hlt)
              have : put1 B.els[i] j x = x := by
                unfold put1
                rw [if_pos]
                refine ⟨hc.1, ?_⟩
                obtain ⟨_, _, cs, hB2⟩ := hR.hp b B hB
                rw [hB2.zs _ (List.getElem_mem hlt), hz, hl, hc.2]
              rw [this] at h3
              exact ⟨w', _, h2, h3, hk⟩
            · obtain ⟨e, he, hk⟩ := h
              rw [hE.F] at hk
              obtain ⟨w', h2, h3⟩ := core e he
              exact ⟨w', _, h2, h3, hk⟩
        · exact h.elim
      · exact h.elim
  · exact h.elim
end Go.Proofs.YtppmomobjjpljaaDoor.E
end

/- Part KE6. -/
section
/- A calculus for Go functions over an abstract memory (part 6): the plain operations. Conditions: those of each theorem. -/
namespace Go.Proofs.YtppmomobjjpljaaDoor.E
open Go Go.RowKit
set_option linter.unusedVariables false
set_option linter.unusedSimpArgs false
variable {P : Program} {E : Env} {φ : Nat → Nat} {w : World} {C : Ctx} {s : St} {a : Act} {K : St → Prop} {o : Oper}

theorem mut_old (hR : Rel C φ s a w) {k : Nat} (h : Mut C.M φ s.hp k) : C.M k ∨ C.fl ≤ k := by
  rcases h with h | ⟨b, B, hb, rfl⟩
  · exact .inl h
  · exact .inr (hR.hp b B hb).2.1
theorem opnd_rd (hR : Rel C φ s a w) (hG : C.G = E.G) {x : Operand} {d : D} (h : opnd E.G s x = some d) : Rd φ (Mut C.M φ s.hp) w s.nx d (a.eval x) := by
  cases x with
  | tmp t => exact hR.tm t d h
  | const v => exact ofVal_rd h
  | func f => cases h; exact .fn rfl fun i d hd => by simp at hd
  | global g =>
    simp only [opnd] at h
    split at h
    · rename_i e he
      cases h
      rw [← hG] at he
      obtain ⟨h1, h2, h3⟩ := hR.G g e he
      exact (h3 φ).move (r := 0) ⟨hR.below.size, fun _ _ _ => rfl, fun k hk hm => hR.below.block k (by
          rcases Nat.lt_or_ge k C.fl with h | h
          · exact h
          · exact absurd (.inr h) hm), fun k _ hm => mut_old hR hm, fun b hb => absurd hb (Nat.not_lt_zero b)⟩ (Nat.le_refl _) (Nat.zero_le _)
    · cases h
theorem opnds_rd (hR : Rel C φ s a w) (hG : C.G = E.G) : ∀ {l : List Operand} {ds : List D}, opnds E.G s l = some ds → Rds φ (Mut C.M φ s.hp) w s.nx ds (l.map a.eval).toArray
  | [], ds, h => by cases h; exact ⟨rfl, fun i d hd => by simp at hd⟩
  | x :: l, ds, h => by
    simp only [opnds] at h
    split at h
    · rename_i d r h1 h2
      cases h
      obtain ⟨h3, h4⟩ := opnds_rd hR hG h2
      refine ⟨by simpa using h3, fun i e he => ?_⟩
      cases i with
      | zero => simp at he; rw [← he]; exact opnd_rd hR hG h1
      | succ i =>
        have := h4 i e (by simpa using he)
        rw [Array.getD_eq_getD_getElem?, List.getElem?_toArray] at this ⊢
        simpa using this
    · cases h
theorem getE_inv {x : Operand} {K : D → Prop} (h : getE E s x K) : ∃ d, opnd E.G s x = some d ∧ K d := by
  unfold getE at h
  split at h
  · exact ⟨_, by assumption, h⟩
  · exact h.elim
theorem getsE_inv {x : List Operand} {K : List D → Prop} (h : getsE E s x K) : ∃ d, opnds E.G s x = some d ∧ K d := by
  unfold getsE at h
  split at h
  · exact ⟨_, by assumption, h⟩
  · exact h.elim

/-- The operation runs, and leaves a state that is told. -/
def Good (P : Program) (C : Ctx) (o : Oper) (a : Act) (w : World) (K : St → Prop) : Prop :=
  ∀ next Q, (∀ φ' s' a' w', Rel C φ' s' a' w' → K s' → next a' w') → o.wp P a w next Q
theorem good_val {φ' : Nat → Nat} {s' : St} {v : Value} {w' : World} (hrun : (execOp a.eval o).run P w = .ok (.value v) w') (hR : Rel C φ' s' (a.put o.dst v) w') (hk : K s') : Good P C o a w K := by
  intro next Q hn
  unfold Oper.wp
  rw [hrun]
  exact hn _ _ _ _ hR hk
theorem good_skip {φ' : Nat → Nat} {s' : St} {w' : World} (hrun : (execOp a.eval o).run P w = .ok .skip w') (hR : Rel C φ' s' (a.put o.dst undef) w') (hk : K s') : Good P C o a w K := by
  intro next Q hn
  unfold Oper.wp
  rw [hrun]
  exact hn _ _ _ _ hR hk
theorem good_still (hR : Rel C φ s a w) {d : D} {v : Value} (hrun : (execOp a.eval o).run P w = .ok (.value v) w) (hd : Rd φ (Mut C.M φ s.hp) w s.nx d v) (hk : K (s.set o.dst d)) : Good P C o a w K :=
  good_val hrun (hR.put o.dst hd) hk

theorem good_move (hR : Rel C φ s a w) (hG : C.G = E.G) {x : Operand} (hrun : (execOp a.eval o).run P w = .ok (.value (a.eval x)) w) (h : getE E s x fun d => K (s.set o.dst d)) : Good P C o a w K := by
  obtain ⟨d, h1, h2⟩ := getE_inv h
  exact good_still hR hrun (opnd_rd hR hG h1) h2
theorem rd_bool {M : Nat → Prop} {n : Nat} {b : Bool} {v : Value} (h : Rd φ M w n (.bool b) v) : v = .bool b := by cases h; rfl
theorem rd_int {M : Nat → Prop} {n : Nat} {k : IntKind} {x : Int} {v : Value} (h : Rd φ M w n (.int k x) v) : v = .int k x := by cases h; rfl
theorem rd_str {M : Nat → Prop} {n : Nat} {x : ByteArray} {v : Value} (h : Rd φ M w n (.str x) v) : v = .string x := by cases h; rfl

/-- A new variable. -/
theorem Rel.newVar (hR : Rel C φ s a w) (T : TypeId) {d : D} {v : Value} (hd : Rd φ (Mut C.M φ s.hp) w s.nx d v) (h1 : oneL d.cells = true) :
    ∃ φ', Rel C φ' (s.new ⟨d.cells.length, T, [d], d.free, true⟩) a (w.alloc (.cells v.cells T)) ∧ φ' s.nx = w.heap.size := by
  obtain ⟨h2, h3⟩ := cells_rd hd h1
  refine ⟨_, hR.alloc ⟨d.cells.length, T, [d], d.free, true⟩ v.cells (by simp [h2]) (fun e he => by simp at he; rw [he]) (fun u hu => ?_) (fun i e j x he hx => ?_), upd_new _ _ _⟩
  · obtain ⟨i, hi, rfl⟩ := Array.getElem_of_mem hu
    have := (h3 i _ (List.getElem?_eq_getElem (by omega))).2
    rw [Array.getD, dif_pos hi] at this
    simpa using this
  · cases i with
    | zero =>
      simp at he
      subst he
      simp only [Nat.zero_mul, Nat.zero_add]
      have := (h3 j x hx).1
      cases hf : d.free with
      | true => exact free_rd this (free_cells hf hx)
      | false => exact this
    | succ i => simp at he
theorem good_new (hR : Rel C φ s a w) (T : TypeId) {d : D} {v : Value} (hd : Rd φ (Mut C.M φ s.hp) w s.nx d v) (h1 : oneL d.cells = true)
    (hrun : (execOp a.eval o).run P w = .ok (.value (.pointer (some ⟨w.heap.size, 0, none⟩))) (w.alloc (.cells v.cells T)))
    (hk : K ((s.new ⟨d.cells.length, T, [d], d.free, true⟩).set o.dst (.ptr s.nx d.cells.length 0 0))) : Good P C o a w K := by
  obtain ⟨φ', h2, h3⟩ := hR.newVar T hd h1
  refine good_val hrun (h2.put o.dst ?_) hk
  have : Rd φ' (Mut C.M φ' (s.new ⟨d.cells.length, T, [d], d.free, true⟩).hp) (w.alloc (.cells v.cells T)) (s.nx + 1) (.ptr s.nx d.cells.length 0 0) (.pointer (some ⟨φ' s.nx, 0 * d.cells.length + 0, none⟩)) := .ptr (Nat.lt_succ_self _)
  rw [h3, Nat.zero_mul, Nat.zero_add] at this
  exact this

theorem fld_spec {T : TypeId} {f off : Nat} {g : Bool} {m : Nat} (h : fldP P T f = some (off, g, m)) : ∃ fs x, P.underlying T = some (.struct fs) ∧ fs[f]? = some x ∧ x.offset = off ∧ szP P x.type = some (g, m) ∧ m ≠ 0 := by
  unfold fldP at h
  split at h
  · rename_i fs hu
    split at h
    · rename_i x hx
      split at h
      · rename_i g' m' hs
        split at h
        · cases h
        · cases h; exact ⟨fs, x, hu, hx, rfl, hs, by assumption⟩
      · cases h
    · cases h
  · cases h
theorem run_fieldAt {T : TypeId} {f off : Nat} {g : Bool} {m : Nat} (h : fldP P T f = some (off, g, m)) (q o : Nat) (w : World) : (Instr.fieldAt T (.pointer (some ⟨q, o, none⟩)) f).run P w = .ok (.pointer (some ⟨q, o + off, none⟩)) w := by
  obtain ⟨fs, x, h1, h2, h3, h4, h5⟩ := fld_spec h
  obtain ⟨d, i, h6, h7, h8, _⟩ := szP_spec h4
  have h9 : ¬ i.size = 0 := by omega
  simp [Instr.fieldAt, run_underlying h1, h2, Instr.sureAddr, fieldPlace, run_sizeP h7, h9, h3, add_plain]
theorem takeE_agg {g : Bool} {m j : Nat} {l : List D} {x : D} (h : takeE g m (.agg l) j = some x) {T : TypeId} (hT : szP P T = some (g, m)) {M : Nat → Prop} {n : Nat} {cs : Array Value} (hn : cs.size = l.length)
    (hr : ∀ i d, l[i]? = some d → Rd φ M w n d (cs.getD i undef)) : ∃ v, (part T cs j).run P w = .ok v w ∧ Rd φ M w n x v := by
  obtain ⟨d, i, h1, h2, h3, h4⟩ := szP_spec hT
  cases g with
  | false =>
    simp only [takeE, D.cells] at h
    split at h
    · rename_i y r hy
      cases h
      have hj : l[j]? = some x := by have := dropL_get j l 0; rw [hy] at this; simpa using this.symm
      have hlt : j < cs.size := by rw [hn]; exact (List.getElem?_eq_some_iff.1 hj).1
      refine ⟨cs[j], ?_, ?_⟩
      · simp [part, h4, Array.getElem?_eq_getElem hlt]
      · have := hr j x hj
        rwa [Array.getD, dif_pos hlt] at this
    · cases h
  | true =>
    simp only [takeE, D.cells] at h
    split at h
    · rename_i r hl
      cases h
      obtain ⟨h5, h6⟩ := takeL_spec hl
      have hlen : m = 0 ∨ j + m ≤ l.length := by
        rcases Nat.eq_zero_or_pos m with h0 | h0
        · exact .inl h0
        · refine .inr ?_
          have := h6 (m - 1) (by omega)
          rw [dropL_get, List.getElem?_eq_getElem (by omega : m - 1 < r.length)] at this
          have := (List.getElem?_eq_some_iff.1 this).1
          omega
      refine ⟨.agg (cs.extract j (j + m)), ?_, .agg ?_ fun q d hd => ?_⟩
      · simp [part, h4, run_sizeP h2, h3]
      · simp [h5, hn]; omega
      · have hq : q < m := by rw [← h5]; exact (List.getElem?_eq_some_iff.1 hd).1
        have h7 := h6 q hq
        rw [hd, dropL_get] at h7
        have h8 := hr (j + q) d h7
        have h9 : j + q < cs.size := by rw [hn]; exact (List.getElem?_eq_some_iff.1 h7).1
        have : (cs.extract j (j + m)).getD q undef = cs.getD (j + q) undef := by
          rw [Array.getD_eq_getD_getElem?, Array.getD_eq_getD_getElem?, Array.getElem?_extract]
          congr 1
          rw [if_pos (by omega)]
        rw [this]; exact h8
    · cases h

theorem kd_slice {T e : TypeId} {m by_ : Nat} {z : D} (h : kdP P T = some (.slice e m by_ z)) : P.underlying T = some (.slice e) ∧ ∃ i v, P.info? e = some i ∧ i.zero = some v ∧ i.size = m ∧ i.bytes = by_ ∧ 0 < m ∧ v.cells.size = m ∧ z.cells.length = m ∧ oneL z.cells = true ∧ z.free = true ∧ ∀ φ M w n, Rd φ M w n z v := by
  unfold kdP at h
  split at h <;> try cases h
  · rename_i e' hu
    split at h
    · rename_i i z' hi hz
      split at h
      · rename_i hc
        cases h
        obtain ⟨i2, v, h1, h2, h3, h4, h5⟩ := zero_rd hz
        rw [hi] at h1
        cases h1
        refine ⟨hu, i, v, hi, h2, rfl, rfl, hc.2, ?_, hc.1, h3, h4, h5⟩
        rw [(cells_rd (h5 id (fun _ => False) default 0) h3).1, hc.1]
      · cases h
    · cases h
  · rename_i hu
    split at h
    · split at h <;> cases h
    · cases h
  · split at h <;> cases h
theorem kd_array {T : TypeId} {len m : Nat} {g : Bool} (h : kdP P T = some (.array len g m)) : ∃ e, P.underlying T = some (.array len e) ∧ szP P e = some (g, m) ∧ m ≠ 0 := by
  unfold kdP at h
  split at h <;> try cases h
  · split at h
    · split at h <;> cases h
    · cases h
  · rename_i len' e hu
    split at h
    · rename_i g' m' hs
      split at h
      · cases h
      · cases h; exact ⟨e, hu, hs, by assumption⟩
    · cases h
  · split at h <;> cases h
theorem kd_int {T : TypeId} {k : IntKind} (h : kdP P T = some (.int k)) : P.underlying T = some (.int k) := by
  unfold kdP at h
  split at h <;> first | (cases h; assumption) | (cases h; done) | skip
  all_goals (split at h <;> try cases h)
  all_goals (split at h <;> cases h)
theorem kd_bool {T : TypeId} (h : kdP P T = some .bool) : P.underlying T = some .bool := by
  unfold kdP at h
  split at h <;> first | (cases h; assumption) | (cases h; done) | skip
  all_goals (split at h <;> try cases h)
  all_goals (split at h <;> cases h)
theorem kd_str {T : TypeId} (h : kdP P T = some .str) : P.underlying T = some .string := by
  unfold kdP at h
  split at h <;> first | (cases h; assumption) | (cases h; done) | skip
  all_goals (split at h <;> try cases h)
  all_goals (split at h <;> cases h)
theorem kd_struct {T : TypeId} (h : kdP P T = some .struct) : ∃ fs, P.underlying T = some (.struct fs) ∧ fs.all (fun f => (P.info? f.type).isSome) = true := by
  unfold kdP at h
  split at h <;> first | (cases h; done) | skip
  all_goals (split at h <;> try cases h)
  all_goals first | exact ⟨_, by assumption, by assumption⟩ | (split at h <;> cases h)
end Go.Proofs.YtppmomobjjpljaaDoor.E
end

/- Part KE7. -/
section
/- A calculus for Go functions over an abstract memory (part 7): sums and tests, indexes and slices. Conditions: those of each theorem. -/
namespace Go.Proofs.YtppmomobjjpljaaDoor.E
open Go Go.RowKit
set_option linter.unusedVariables false
set_option linter.unusedSimpArgs false
variable {P : Program} {E : Env} {φ : Nat → Nat} {w : World} {C : Ctx} {s : St} {a : Act}

/-- What is asked of an operation that changes nothing: it gives v, told by a d of which K holds. -/
def Gives (P : Program) (C : Ctx) (φ : Nat → Nat) (s : St) (w : World) (e : Sem Value) (K : D → Prop) : Prop :=
  ∃ v d, e.run P w = .ok v w ∧ Rd φ (Mut C.M φ s.hp) w s.nx d v ∧ K d

theorem run_eq_bool {T : TypeId} (h : P.underlying T = some .bool) (x y : Bool) (w : World) : (Op.equal T (.bool x) (.bool y)).run P w = .ok (x == y) w := by
  obtain ⟨d, hd⟩ : ∃ d, Op.maxDepth = d + 1 := ⟨_, rfl⟩
  rw [Op.equal, hd, Op.equalIn]
  simp only [Sem.run_bind, run_underlying h, Result.andThen_ok, Sem.run_pure]
set_option maxHeartbeats 1000000 in
theorem binE_rd (hE : EnvOk P E) {op : BinOp} {T T' : TypeId} {x y : D} {vx vy : Value} {K : D → Prop} {X Y : Operand} (h : binE E op T x y K) (hx : Rd φ (Mut C.M φ s.hp) w s.nx x vx) (hy : Rd φ (Mut C.M φ s.hp) w s.nx y vy) :
    Gives P C φ s w (do eqGuard op T X Y vx vy; binOp op T vx vy) K := by
  unfold binE at h
  have fin : ∀ {e : Sem Value} {v : Value} {d : D}, e.run P w = .ok v w → Rd φ (Mut C.M φ s.hp) w s.nx d v → K d → Gives P C φ s w e K := fun h1 h2 h3 => ⟨_, _, h1, h2, h3⟩
  have hF := hE.F
  split at h
  · cases hx; cases hy
    rw [hF] at h
    obtain ⟨h0, h⟩ := h
    have hb := Int.not_lt.2 (show (0 : Int) ≤ _ from h0)
    exact fin (by simp [eqGuard, binOp, Op.shift, hb, fns, arI]) .int h
  · cases hx; cases hy
    rw [hF] at h
    obtain ⟨h0, h⟩ := h
    have hb := Int.not_lt.2 (show (0 : Int) ≤ _ from h0)
    exact fin (by simp [eqGuard, binOp, Op.shift, hb, fns, arI]) .int h
  · cases hx; cases hy
    split at h
    · rename_i hk; subst hk
      rw [hF] at h
      obtain ⟨h0, h⟩ := h
      have hb := (show _ ≠ (0 : Int) from h0)
      exact fin (by simp [eqGuard, binOp, Op.intDiv, hb, fns, arI]) .int h
    · exact h.elim
  · cases hx; cases hy
    split at h
    · rename_i hk; subst hk
      rw [hF] at h
      obtain ⟨h0, h⟩ := h
      have hb := (show _ ≠ (0 : Int) from h0)
      exact fin (by simp [eqGuard, binOp, Op.intDiv, hb, fns, arI]) .int h
    · exact h.elim
  · cases hx; cases hy
    split at h
    · rename_i hk; subst hk
      rw [hF] at h
      exact fin (by simp [eqGuard, binOp, Op.intArith, Op.intBits, fns, arI]) .int h
    · exact h.elim
  · cases hx; cases hy
    split at h
    · rename_i hk; subst hk
      rw [hF] at h
      exact fin (by simp [eqGuard, binOp, Op.intArith, Op.intBits, fns, arI]) .int h
    · exact h.elim
  · cases hx; cases hy
    split at h
    · rename_i hk; subst hk
      rw [hF] at h
      exact fin (by simp [eqGuard, binOp, Op.intArith, Op.intBits, fns, arI]) .int h
    · exact h.elim
  · cases hx; cases hy
    split at h
    · rename_i hk; subst hk
      rw [hF] at h
      exact fin (by simp [eqGuard, binOp, Op.intArith, Op.intBits, fns, arI]) .int h
    · exact h.elim
  · cases hx; cases hy
    split at h
    · rename_i hk; subst hk
      rw [hF] at h
      exact fin (by simp [eqGuard, binOp, Op.intArith, Op.intBits, fns, arI]) .int h
    · exact h.elim
  · cases hx; cases hy
    split at h
    · rename_i hk; subst hk
      rw [hF] at h
      exact fin (by simp [eqGuard, binOp, Op.intArith, Op.intBits, fns, arI]) .int h
    · exact h.elim
  · cases hx; cases hy
    split at h
    · rename_i hk; subst hk
      rw [hF] at h
      exact fin (by simp [eqGuard, binOp, Op.intArith, Op.intBits, fns, arI]) .int h
    · exact h.elim
  · cases hx; cases hy
    split at h
    · rename_i hk; subst hk
      rw [hF] at h
      refine fin ?_ .bool h
      cases op <;> first | (exfalso; simp_all; done) | simp [eqGuard, binOp, Op.intCmp, fns, cmI]
    · exact h.elim
  · cases hx; cases hy
    split at h
    · rename_i hk
      rw [hF] at h
      exact fin (by simp [eqGuard, binOp, run_eq_bool (kd_bool (hE.kd hk)), fns]) .bool h
    · exact h.elim
  · cases hx; cases hy
    split at h
    · rename_i hk
      rw [hF] at h
      split at h
      · rename_i hb
        refine fin (v := .bool false) ?_ .bool h
        simp only [fns] at hb
        simp [eqGuard, binOp, run_eq_bool (kd_bool (hE.kd hk)), hb]
      · rename_i hb
        refine fin (v := .bool true) ?_ .bool h
        simp only [fns] at hb
        simp [eqGuard, binOp, run_eq_bool (kd_bool (hE.kd hk)), hb]
    · exact h.elim
  · cases hx; cases hy
    rw [hF] at h
    exact fin (by simp [eqGuard, binOp, Op.stringOp, fns]) .bool h
  · cases hx; cases hy
    rw [hF] at h
    split at h
    · rename_i hb
      refine fin (v := .bool false) ?_ .bool h
      simp only [fns] at hb
      simp [eqGuard, binOp, Op.stringOp, hb]
    · rename_i hb
      refine fin (v := .bool true) ?_ .bool h
      simp only [fns] at hb
      simp [eqGuard, binOp, Op.stringOp, hb]
  · cases hx; cases hy
    rw [hF] at h
    obtain ⟨h0, h⟩ := h
    have h0 : _ + _ ≤ 9223372036854775807 := h0
    refine fin ?_ .str h
    have hb := Int.not_lt.2 (Int.ofNat_le.2 h0)
    simp only [eqGuard, binOp, Op.stringOp, Sem.run_bind, fns]
    simp [IntKind.max, IntKind.bits, IntKind.signed]
    omega
  · obtain ⟨r, h0, h⟩ := h
    rw [hF] at h0
    obtain ⟨hg, hq⟩ : EqOk P T _ _ r := h0
    have hrun := hq _ _ _ _ _ _ hx hy
    cases hx; cases hy
    exact fin (by simp [eqGuard, hg, binOp, hrun]) .bool h
  · obtain ⟨r, h0, h⟩ := h
    rw [hF] at h0
    obtain ⟨hg, hq⟩ : EqOk P T _ _ r := h0
    have hrun := hq _ _ _ _ _ _ hx hy
    cases hx; cases hy
    exact fin (by simp [eqGuard, hg, binOp, hrun]) .bool h
  · exact h.elim

theorem unE_rd (hE : EnvOk P E) {op : UnOp} {x : D} {vx : Value} {K : D → Prop} (h : unE E op x K) (hx : Rd φ (Mut C.M φ s.hp) w s.nx x vx) : Gives P C φ s w (Op.unary op vx) K := by
  unfold unE at h
  have hF := hE.F
  split at h
  · cases hx
    split at h
    · exact ⟨_, _, by simp [Op.unary], .bool, h⟩
    · exact ⟨_, _, by simp [Op.unary], .bool, h⟩
  · cases hx
    rw [hF] at h
    exact ⟨_, _, by simp [Op.unary, Op.intArith, fns, unI], .int, h⟩
  · cases hx
    rw [hF] at h
    exact ⟨_, _, by simp [Op.unary, Op.intBits, fns, unI], .int, h⟩
  · exact h.elim
theorem convE_rd (hE : EnvOk P E) {S T : TypeId} {x : D} {vx : Value} {K : D → Prop} (h : convE E S T x K) (hx : Rd φ (Mut C.M φ s.hp) w s.nx x vx) : Gives P C φ s w (convert S T vx) K := by
  unfold convE at h
  have hF := hE.F
  split at h
  · rename_i hS hk
    cases hx
    rw [hF] at h
    refine ⟨_, _, ?_, .int, h⟩
    simp [convert, run_underlying (kd_int (hE.kd hS)), run_underlying (kd_int (hE.kd hk)), Conv.intToInt, fns]
  · exact h.elim
theorem lenE_rd (hE : EnvOk P E) {T T' : TypeId} {ts : List TypeId} {x : D} {vx : Value} {K : D → Prop} (h : lenE E T x K) (hx : Rd φ (Mut C.M φ s.hp) w s.nx x vx) : Gives P C φ s w (Builtin.len_ (T :: ts).toArray T' #[vx]) K := by
  unfold lenE at h
  have hF := hE.F
  split at h
  · rename_i hk
    have hu := (kd_slice (hE.kd hk)).1
    cases hx
    rw [hF] at h
    exact ⟨_, _, by simp [Builtin.len_, run_underlying hu, fns, goInt], .int, h⟩
  · rename_i hk
    have hu := (kd_slice (hE.kd hk)).1
    rw [hF] at h
    cases hx
    · exact ⟨_, _, by simp [Builtin.len_, run_underlying hu, fns, goInt], .int, h⟩
    · exact ⟨_, _, by simp [Builtin.len_, run_underlying hu, fns, goInt], .int, h⟩
  · rename_i hk
    have hu := (kd_slice (hE.kd hk)).1
    cases hx
    exact ⟨_, _, by simp [Builtin.len_, run_underlying hu, fns, goInt], .int, h⟩
  · rename_i hk
    have hu := kd_str (hE.kd hk)
    cases hx
    rw [hF] at h
    exact ⟨_, _, by simp [Builtin.len_, run_underlying hu, fns, goInt], .int, h⟩
  · rename_i hk
    obtain ⟨e, hu, _⟩ := kd_array (hE.kd hk)
    rw [hF] at h
    refine ⟨_, _, ?_, .int, h⟩
    simp [Builtin.len_, run_underlying hu, fns, goInt]
  · exact h.elim
theorem minmax_rd (hE : EnvOk P E) {hi : Bool} : ∀ {l : List D} {x r : D} {vx : Value} {vs : List Value}, minmax E hi x l = some r → Rd φ (Mut C.M φ s.hp) w s.nx x vx → vs.length = l.length → (∀ i d, l[i]? = some d → Rd φ (Mut C.M φ s.hp) w s.nx d (vs.getD i undef)) →
    ∃ v, (vs.foldlM (if hi then Builtin.max2 else Builtin.min2) vx).run P w = .ok v w ∧ Rd φ (Mut C.M φ s.hp) w s.nx r v
  | [], x, r, vx, vs, h, hx, hn, hv => by
    have : vs = [] := List.eq_nil_of_length_eq_zero hn
    subst this
    simp only [minmax] at h
    cases h
    exact ⟨vx, by simp, hx⟩
  | y :: l, x, r, vx, vs, h, hx, hn, hv => by
    cases vs with
    | nil => simp at hn
    | cons u vs =>
      have hy : Rd φ (Mut C.M φ s.hp) w s.nx y u := by simpa using hv 0 y rfl
      unfold minmax at h
      split at h
      · rename_i heq
        cases heq
      · rename_i heq
        injection heq with h1 h2
        subst h1; subst h2
        cases hx; cases hy
        have := minmax_rd hE (vs := vs) h .int (by simpa using hn) (fun i d hd => by simpa using hv (i + 1) d (by simpa using hd))
        obtain ⟨v, h1, h2⟩ := this
        refine ⟨v, ?_, h2⟩
        rw [hE.F] at h1
        rw [List.foldlM_cons]
        cases hi <;> simp only [fns, if_true, if_false, Bool.false_eq_true, Sem.run_bind, Builtin.max2, Builtin.min2, Sem.run_pure, Result.andThen_ok] at h1 ⊢ <;> exact h1
      · cases h
end Go.Proofs.YtppmomobjjpljaaDoor.E
end

/- Part KE8. -/
section
/- A calculus for Go functions over an abstract memory (part 8): indexes, slices, rows that are made. Conditions: those of each theorem. -/
namespace Go.Proofs.YtppmomobjjpljaaDoor.E
open Go Go.RowKit
set_option linter.unusedVariables false
set_option linter.unusedSimpArgs false
variable {P : Program} {E : Env} {φ : Nat → Nat} {w : World} {C : Ctx} {s : St} {a : Act} {o : Oper}

theorem indexAddrE_rd (hE : EnvOk P E) {T : TypeId} {x i : D} {vx vi : Value} {K : D → Prop} (h : indexAddrE E T s x i K) (hx : Rd φ (Mut C.M φ s.hp) w s.nx x vx) (hi : Rd φ (Mut C.M φ s.hp) w s.nx i vi) :
    Gives P C φ s w (Instr.indexAt T vx vi) K := by
  unfold indexAddrE at h
  have hF := hE.F
  split at h
  · rename_i hk
    obtain ⟨hu, ti, v, h1, h2, h3, h4, h5, h6, h7, _⟩ := kd_slice (hE.kd hk)
    cases hi
    split at h
    · rename_i hz
      subst hz
      rw [hF] at h
      obtain ⟨hb, h⟩ := h
      simp only [fns] at hb
      cases hx with
      | sl k1 k2 k3 k4 k5 =>
        refine ⟨_, _, ?_, .ptr k1, h⟩
        simp only [Instr.indexAt, asIntOf, Sem.run_bind, Sem.run_pure, Result.andThen_ok, run_underlying hu]
        simp [hb.1, hb.2, run_sizeP h1, h3, add_plain, fns, Nat.add_mul]
    · exact h.elim
  · rename_i e0 z0 by0 d0 l0 k0 ii hk
    obtain ⟨hu, ti, v, h1, h2, h3, h4, h5, h6, h7, _⟩ := kd_slice (hE.kd hk)
    cases hi
    rw [hF] at h
    obtain ⟨hb, e, he, hez, h⟩ := h
    simp only [fns] at hb
    cases hx with
    | roE => simp at he
    | @ro _ l k oo z c g k1 k2 k3 k4 k5 k6 k7 k8 =>
      have hz : z = z0 := by rw [← hez, k5 e (List.mem_of_getElem? he)]
      have hlt : ii.toNat < l0.length := (List.getElem?_eq_some_iff.1 he).1
      refine ⟨_, _, ?_, .rp (k := k) (o := oo + ii.toNat * z) (j := 0) (fun q => g (ii.toNat * z + q)) k3 k4 (fun q d hd => ?_) (fun q d hd => ?_), h⟩
      · simp only [Instr.indexAt, asIntOf, Sem.run_bind, Sem.run_pure, Result.andThen_ok, run_underlying hu]
        have : ii < l0.length := by omega
        simp [hb, this, run_sizeP h1, h3, add_plain, hz]
      · rw [Nat.add_assoc]; exact k6 _ e q d he hd
      · exact k8 _ e q d he hd
  · rename_i hk
    obtain ⟨e, hu, hs, hm⟩ := kd_array (hE.kd hk)
    obtain ⟨_, ti, _, h1, h2, _⟩ := szP_spec hs
    obtain ⟨k, rfl, hlt, h⟩ := h
    cases hi
    cases hx with
    | ptr k1 =>
      refine ⟨_, _, ?_, .ptr k1, h⟩
      simp only [Instr.indexAt, asIntOf, Sem.run_bind, Sem.run_pure, Result.andThen_ok, run_underlying hu, Instr.sureAddr]
      have : (k : Int) < _ := Int.ofNat_lt.2 hlt
      simp [hlt, run_sizeP h1, h2, add_plain, Nat.add_assoc]
  · rename_i hk
    obtain ⟨e, hu, hs, hm⟩ := kd_array (hE.kd hk)
    obtain ⟨_, ti, _, h1, h2, _⟩ := szP_spec hs
    obtain ⟨k, rfl, hlt, h⟩ := h
    cases hi
    cases hx with
    | rp g k1 k2 k3 k4 =>
      refine ⟨_, _, ?_, .rp g k1 k2 k3 k4, h⟩
      simp only [Instr.indexAt, asIntOf, Sem.run_bind, Sem.run_pure, Result.andThen_ok, run_underlying hu, Instr.sureAddr]
      simp [hlt, run_sizeP h1, h2, add_plain, Nat.add_assoc]
  · exact h.elim

theorem indexE_rd (hE : EnvOk P E) {T : TypeId} {x i : D} {vx vi : Value} {K : D → Prop} (h : indexE E T x i K) (hx : Rd φ (Mut C.M φ s.hp) w s.nx x vx) (hi : Rd φ (Mut C.M φ s.hp) w s.nx i vi) :
    Gives P C φ s w (Instr.index T vx vi) K := by
  unfold indexE at h
  have hF := hE.F
  split at h
  · rename_i hk
    obtain ⟨e, hu, hs, hm⟩ := kd_array (hE.kd hk)
    obtain ⟨_, ti, _, h1, h2, _⟩ := szP_spec hs
    obtain ⟨k, rfl, hlt, d, hd, h⟩ := h
    cases hi
    cases hx with
    | agg hn hr =>
      obtain ⟨v, h3, h4⟩ := takeE_agg hd hs hn hr
      refine ⟨v, d, ?_, h4, h⟩
      simp only [Instr.index, asIntOf, Sem.run_bind, Sem.run_pure, Result.andThen_ok, run_underlying hu]
      simp [hlt, run_sizeP h1, h2, h3]
  · rename_i hk
    have hu := kd_str (hE.kd hk)
    rw [hF] at h
    obtain ⟨h0, b, hb, h⟩ := h
    simp only [fns] at h0
    cases hi
    cases hx
    refine ⟨_, _, ?_, .int, h⟩
    simp only [Instr.index, asIntOf, Sem.run_bind, Sem.run_pure, Result.andThen_ok, run_underlying hu]
    simp [h0, hb, fns]
  · exact h.elim

theorem boundE_inv (hE : EnvOk P E) (hR : Rel C φ s a w) (hG : C.G = E.G) {o : Option Operand} {dflt : Nat} {K : Nat → Prop} (h : boundE E s o dflt K) :
    ∃ k, K k ∧ ((o = none ∧ k = dflt) ∨ ∃ x q i, o = some x ∧ a.eval x = .int q i ∧ 0 ≤ i ∧ k = i.toNat) := by
  unfold boundE at h
  split at h
  · exact ⟨_, h, .inl ⟨rfl, rfl⟩⟩
  · rename_i x
    split at h
    · rename_i q i hx
      rw [hE.F] at h
      obtain ⟨h0, h⟩ := h
      have h0 : 0 ≤ i := h0
      have := rd_int (opnd_rd hR hG hx)
      exact ⟨_, h, .inr ⟨x, q, i, rfl, this, h0, by simp [fns]⟩⟩
    · exact h.elim
theorem run_bounds {isS : Bool} {len cap h l : Nat} {lo hi : Option Operand} (hh : (hi = none ∧ h = len) ∨ ∃ x q i, hi = some x ∧ a.eval x = .int q i ∧ 0 ≤ i ∧ h = i.toNat)
    (hl : (lo = none ∧ l = 0) ∨ ∃ x q i, lo = some x ∧ a.eval x = .int q i ∧ 0 ≤ i ∧ l = i.toNat) (h1 : h ≤ cap) (h2 : l ≤ h) :
    (Instr.sliceBounds isS len cap (lo.map a.eval) (hi.map a.eval) none).run P w = .ok (l, h, cap) w := by
  have key : ∀ (i : Int) (q : IntKind) (y : Nat) (code : BoundsCode), 0 ≤ i → i.toNat ≤ y → (Instr.sliceBound (.int q i) y code).run P w = .ok i.toNat w := fun i q y code h0 h1 => by
    have : i ≤ y := by omega
    simp [Instr.sliceBound, asIntOf, h0, this]
  unfold Instr.sliceBounds
  rcases hh with ⟨rfl, rfl⟩ | ⟨x, q, i, rfl, hx, hx0, rfl⟩ <;> rcases hl with ⟨rfl, rfl⟩ | ⟨y, q2, i2, rfl, hy, hy0, rfl⟩
  · simp
  · simp [hy, key i2 q2 _ _ hy0 h2]
  · simp [hx, key i q _ _ hx0 h1]
  · simp [hx, hy, key i q _ _ hx0 h1, key i2 q2 _ _ hy0 h2]
theorem subL_get (L : List D) (l m : Nat) (h : l + m ≤ L.length) : (subL L l m).length = m ∧ ∀ i, i < m → (subL L l m)[i]? = L[l + i]? := by
  unfold subL
  split
  · rename_i hc
    obtain ⟨rfl, rfl⟩ := hc
    exact ⟨rfl, fun i hi => by simp⟩
  · refine ⟨by simp; omega, fun i hi => ?_⟩
    rw [List.getElem?_take_of_lt hi, List.getElem?_drop]
theorem sliceE_rd (hE : EnvOk P E) (hR : Rel C φ s a w) (hG : C.G = E.G) {T : TypeId} {x : D} {vx : Value} {lo hi : Option Operand} {K : D → Prop} (h : sliceE E T s x lo hi K) (hx : Rd φ (Mut C.M φ s.hp) w s.nx x vx) :
    Gives P C φ s w (Instr.sliceAt T vx (lo.map a.eval) (hi.map a.eval) none) K := by
  unfold sliceE at h
  have hF := hE.F
  split at h
  · rename_i e z by_ d b z' i n hk
    obtain ⟨hu, ti, v, h1, h2, h3, h4, h5, h6, h7, _⟩ := kd_slice (hE.kd hk)
    have hq := boundE_inv hE hR hG h
    clear h
    obtain ⟨hh, h, hhi⟩ := hq
    split at h
    · rename_i hz
      subst hz
      have main : ∀ l, (lo = none ∧ l = 0 ∨ ∃ x q i, lo = some x ∧ a.eval x = .int q i ∧ 0 ≤ i ∧ l = i.toNat) → l ≤ hh → hh ≤ n →
          (l = 0 → K (.sl b z i hh)) → (0 < l → l = hh → K (.ro [])) → (0 < l → l < hh → K (.sl b z (i + l) (hh - l))) → Gives P C φ s w (Instr.sliceAt T vx (lo.map a.eval) (hi.map a.eval) none) K := by
        intro l hlo hl hn k0 k1 k2
        cases hx with
        | @sl _ _ _ _ _ c cs ee fz c1 c2 c3 c4 c5 =>
          have hb := run_bounds (P := P) (w := w) (isS := true) (len := n) (cap := c) hhi hlo (by omega) hl
          have hrun : (Instr.sliceAt T (.slice (some ⟨φ b, i * z, none⟩) n c) (lo.map a.eval) (hi.map a.eval) none).run P w = .ok (.slice (if c = l then some ⟨φ b, i * z, none⟩ else some ⟨φ b, i * z + l * z, none⟩) (hh - l) (c - l)) w := by
            simp [Instr.sliceAt, Instr.slice, run_underlying hu, hb, run_sizeP h1, h3, add_plain]
          rcases Nat.eq_zero_or_pos l with hl0 | hl0
          · subst hl0
            refine ⟨_, _, hrun, ?_, k0 rfl⟩
            have : (if c = 0 then some (⟨φ b, i * z, none⟩ : Addr) else some ⟨φ b, i * z + 0 * z, none⟩) = some ⟨φ b, i * z, none⟩ := by split <;> simp
            rw [this, Nat.sub_zero, Nat.sub_zero]
            exact .sl c1 c2 c3 (by omega) c5
          · rcases Nat.eq_or_lt_of_le hl with hlh | hlh
            · refine ⟨_, _, hrun, ?_, k1 hl0 hlh⟩
              rw [hlh, Nat.sub_self]
              refine .roE fun hnone => ?_
              split at hnone <;> cases hnone
            · refine ⟨_, _, hrun, ?_, k2 hl0 hlh⟩
              rw [if_neg (by omega), ← Nat.add_mul]
              refine .sl c1 c2 ?_ (by omega) (by omega)
              rw [← c3]
              congr 1
              omega
      split at h
      · rw [hF] at h
        obtain ⟨hb, h⟩ := h
        have hb : hh ≤ n := hb
        exact main 0 (.inl ⟨rfl, rfl⟩) (Nat.zero_le _) hb (fun _ => h) (fun h0 => absurd h0 (Nat.lt_irrefl 0)) (fun h0 => absurd h0 (Nat.lt_irrefl 0))
      · have hq := boundE_inv hE hR hG h
        clear h
        obtain ⟨l, h, hlo⟩ := hq
        rw [hF] at h
        obtain ⟨hb, h0, h1', h2'⟩ := h
        have hb : l ≤ hh ∧ hh ≤ n := hb
        refine main l hlo hb.1 hb.2 h0 h1' fun q1 q2 => ?_
        have := h2' q1 q2
        simpa [fns] using this
    · exact h.elim
  · rename_i e z by_ d xs hk
    obtain ⟨hu, ti, v, h1, h2, h3, h4, h5, h6, h7, _⟩ := kd_slice (hE.kd hk)
    have hq := boundE_inv hE hR hG h
    clear h
    obtain ⟨hh, h, hhi⟩ := hq
    have hq := boundE_inv hE hR hG h
    clear h
    obtain ⟨l, h, hlo⟩ := hq
    rw [hF] at h hhi
    obtain ⟨hb, h⟩ := h
    have hb : l ≤ hh ∧ hh ≤ xs.length ∧ ∀ d, d ∈ xs → d.cells.length = z := hb
    obtain ⟨hl, hn, hzs⟩ := hb
    obtain ⟨s1, s2⟩ := subL_get xs l (hh - l) (by omega)
    have hk' : K (.ro (subL xs l (hh - l))) := h
    cases hx with
    | roE hc =>
      rename_i aa c
      simp at hn
      subst hn
      have hl0 : l = 0 := by omega
      subst hl0
      have hb := run_bounds (P := P) (w := w) (isS := true) (len := 0) (cap := c) (h := 0) (l := 0) (hi := hi) (lo := lo) hhi hlo (by omega) (by omega)
      refine ⟨_, _, by simp [Instr.sliceAt, Instr.slice, run_underlying hu, hb, run_sizeP h1, h3]; rfl, ?_, hk'⟩
      have : subL [] 0 (0 - 0) = [] := by simp [subL]
      rw [this]
      refine .roE fun hnone => ?_
      cases aa with
      | none => simp [hc rfl]
      | some aa => split at hnone <;> simp_all
    | @ro _ _ k oo zz c g k1 k2 k3 k4 k5 k6 k7 k8 =>
      have hb := run_bounds (P := P) (w := w) (isS := true) (len := xs.length) (cap := c) hhi hlo (by omega) hl
      have hrun : (Instr.sliceAt T (.slice (some ⟨k, oo, none⟩) xs.length c) (lo.map a.eval) (hi.map a.eval) none).run P w = .ok (.slice (if c = l then some ⟨k, oo, none⟩ else some ⟨k, oo + l * z, none⟩) (hh - l) (c - l)) w := by
        simp [Instr.sliceAt, Instr.slice, run_underlying hu, hb, run_sizeP h1, h3, add_plain]
      refine ⟨_, _, hrun, ?_, hk'⟩
      rcases Nat.eq_or_lt_of_le hl with hlh | hlh
      · have h0 : subL xs l (hh - l) = [] := List.eq_nil_of_length_eq_zero (by omega)
        rw [h0, hlh, Nat.sub_self]
        refine .roE fun hnone => ?_
        split at hnone <;> cases hnone
      · rw [if_neg (by omega)]
        have hzz : zz = z := by
          rw [← hzs xs[l] (List.getElem_mem (by omega)), k5 xs[l] (List.getElem_mem (by omega))]
        subst hzz
        have hsub : ∀ i e, (subL xs l (hh - l))[i]? = some e → xs[l + i]? = some e := fun i e he => by
          have hi : i < hh - l := by rw [← s1]; exact (List.getElem?_eq_some_iff.1 he).1
          rw [← s2 i hi]; exact he
        have := Rd.ro (φ := φ) (M := Mut C.M φ s.hp) (w := w) (n := s.nx) (l := subL xs l (hh - l)) (k := k) (o := oo + l * zz) (z := zz) (c := c - l) (fun q => g (l * zz + q)) (by omega) (by omega) k3 k4
          (fun e he => by
            obtain ⟨i, hi, rfl⟩ := List.getElem_of_mem he
            exact k5 _ (List.mem_of_getElem? (hsub i _ (List.getElem?_eq_getElem hi))))
          (fun i e j d he hd => by
            have := k6 (l + i) e j d (hsub i e he) hd
            rw [show oo + l * zz + (i * zz + j) = oo + ((l + i) * zz + j) by rw [Nat.add_mul]; omega, show l * zz + (i * zz + j) = (l + i) * zz + j by rw [Nat.add_mul]; omega]
            exact this)
          (fun i e j d he hd => by
            rw [show l * zz + (i * zz + j) = (l + i) * zz + j by rw [Nat.add_mul]; omega]
            exact k7 (l + i) e j d (hsub i e he) hd)
          (fun i e j d he hd => by
            rw [show l * zz + (i * zz + j) = (l + i) * zz + j by rw [Nat.add_mul]; omega]
            exact k8 (l + i) e j d (hsub i e he) hd)
        rw [s1] at this
        exact this
  · rename_i t hk
    have hu := kd_str (hE.kd hk)
    have hq := boundE_inv hE hR hG h
    clear h
    obtain ⟨hh, h, hhi⟩ := hq
    have hq := boundE_inv hE hR hG h
    clear h
    obtain ⟨l, h, hlo⟩ := hq
    rw [hF] at h hhi
    obtain ⟨hb, h⟩ := h
    have hb : l ≤ hh ∧ hh ≤ t.size := hb
    cases hx
    have hbr := run_bounds (P := P) (w := w) (isS := false) (len := t.size) (cap := t.size) hhi hlo hb.2 hb.1
    exact ⟨_, _, by simp [Instr.sliceAt, Instr.slice, run_underlying hu, hbr, fns], .str, h⟩
  · exact h.elim
end Go.Proofs.YtppmomobjjpljaaDoor.E
end
