/- Own texts of the claims of this seat, one behind the other: KE15, KEQ, KR, KR2: what a call comes to, and contracts of functions. -/
import Derived.Test.YtppmomobjjpljaaDoorPk2
import Derived.ChangeKeysEq
import Derived.Lib.LaidTab
import Derived.Deep.DeepHandedRow
import Derived.ProofKit
import Derived.SizedLaws
import Derived.WideShapes
import Derived.Carry
import Derived.OpenShut
/- Part KE15. -/
section
/- A calculus for Go functions over an abstract memory (part 15): the forms that proofs begin with. Conditions: those of each theorem. -/
namespace Go.Proofs.YtppmomobjjpljaaDoor.E
open Go Go.RowKit
set_option linter.unusedVariables false
set_option linter.unusedSimpArgs false
variable {P : Program} {G : List (Nat × D)} {t : Tr}

def env (t : Tr) (G : List (Nat × D)) (F : Fns) : Env := ⟨fun T => t.find T, G, F⟩
theorem env_ok (ht : t.ok P) : EnvOk P (env t G (fns P G)) := ⟨rfl, fun T x h => Tr.ok_find ht h⟩
/-- The proof of a contract, where the result is told by content. -/
theorem fun0 (ht : t.ok P) (hm : P.follows .mixedOrders = true) {f : FuncId} {fn : Func} {c : Code} (hf : Fn P f fn c) {n : Nat} {rs : List ResultVar} {ds : List D} {d : D} (hn : fn.ntmps = n) (hr : fn.results.toList = rs) (hl : ds.length ≤ n)
    (h : ∀ F d0, F = fns P G → d0 = d → wpE ⟨fun T => t.find T, G, F⟩ c (St.start n ds) (retE ⟨fun T => t.find T, G, F⟩ rs (Exp0 ⟨fun T => t.find T, G, F⟩ d0))) : Contract P G f ds d [] := by
  subst hn; subst hr
  exact contract_exp0 (env_ok ht) (draws_ok hm _ (env_ok ht)) hf hl (h _ _ rfl rfl)
/-- The proof of a contract, where rows of its own are handed out. -/
theorem funOwn (ht : t.ok P) (hm : P.follows .mixedOrders = true) {f : FuncId} {fn : Func} {c : Code} (hf : Fn P f fn c) {n : Nat} {rs : List ResultVar} {ds : List D} {d : D} {ext : List Blk} (ids : List Nat) (hn : fn.ntmps = n) (hr : fn.results.toList = rs) (hl : ds.length ≤ n)
    (h : ∀ F d0 e0, F = fns P G → d0 = d → e0 = ext → wpE ⟨fun T => t.find T, G, F⟩ c (St.start n ds) (retE ⟨fun T => t.find T, G, F⟩ rs (ExpOwn ⟨fun T => t.find T, G, F⟩ ids d0 e0))) : Contract P G f ds d ext := by
  subst hn; subst hr
  exact contract_own (env_ok ht) (draws_ok hm _ (env_ok ht)) hf ids hl (h _ _ _ rfl rfl rfl)

/-- What is handed back by a function that is called in place. -/
def backE (E : Env) (rs : List ResultVar) (nt : Nat) (K : D → St → Prop) (e : Exit) (s : St) : Prop :=
  match e with
  | .normal => match s.df with
    | [] => resE E s rs fun l => outK nt K (packE l) s
    | _ => False
  | .ret => match s.df with
    | [] => resE E s rs fun l => outK nt K (packE l) s
    | _ => False
  | _ => False
theorem wpE_conseq {E : Env} {c : Code} {s : St} {Q Q' : Exit → St → Prop} (hQ : Q = Q') (h : wpE E c s Q) : wpE E c s Q' := hQ ▸ h
theorem backE_eq {E : Env} {rs : List ResultVar} {nt : Nat} {K : D → St → Prop} : backE E rs nt K = fun e s' => (match e with
      | .normal => True
      | .ret => True
      | _ => False) ∧ s'.df = [] ∧ resE E s' rs fun l => outK nt K (packE l) s' := by
  funext e s'
  unfold backE
  cases e <;> simp <;> cases s'.df <;> simp
/-- The proof of a call in place. -/
theorem inPlace (ht : t.ok P) (hm : P.follows .mixedOrders = true) {F : Fns} (hF : F = fns P G) {f : FuncId} {fn : Func} {c : Code} (hf : Fn P f fn c) {n : Nat} {rs : List ResultVar} {ds : List D} {s : St} {K : D → St → Prop} (hn : fn.ntmps = n) (hr : fn.results.toList = rs) (hl : ds.length ≤ n) (hdf : s.df = [])
    (h : wpE ⟨fun T => t.find T, G, F⟩ c (s.inner n ds) (backE ⟨fun T => t.find T, G, F⟩ rs s.nt K)) : F.IC f ds s K := by
  subst hn; subst hr; subst hF
  rw [backE_eq] at h
  exact icall_wpE (env_ok ht) (draws_ok hm _ (env_ok ht)) hf hl hdf h
/-- A loop, by what holds at its head and a measure. -/
theorem loop_inv {F : Fns} (hF : F = fns P G) {T : (St → Prop) → St → Prop} {s : St} (α : Type) (p : α → Prop) (I : α → St) (m : α → Nat) (h0 : ∃ i, p i ∧ F.WK s (I i))
    (hr : ∀ i, p i → T (fun s' => ∃ i', p i' ∧ m i' < m i ∧ F.WK s' (I i')) (I i)) : F.LP T s := by
  subst hF
  intro Z h1 h2
  have key : ∀ n i, m i = n → p i → Z (I i) := by
    intro n
    induction n using Nat.strongRecOn with
    | ind n ih =>
      intro i hi hp
      exact h1 (I i) _ (fun s' ⟨i', hp', hlt, hwk⟩ => h2 _ _ hwk (ih (m i') (hi ▸ hlt) i' rfl hp')) (hr i hp)
  obtain ⟨i, hp, hw⟩ := h0
  exact h2 _ _ hw (key _ i rfl hp)
/-- A loop, one round on. -/
theorem loop_step {F : Fns} (hF : F = fns P G) {T : (St → Prop) → St → Prop} {s : St} (h : T (F.LP T) s) : F.LP T s := by
  subst hF
  intro Z h1 h2
  exact h1 s _ (fun s' hs' => hs' Z h1 h2) h

/-! ### Less is known -/
theorem Rd.lower {φ : Nat → Nat} {M M' : Nat → Prop} {w : World} {n m : Nat} {d : D} {v : Value} (h : Rd φ M w n d v) (hM : ∀ k, k < w.heap.size → M' k → M k) : d.lt m = true → Rd φ M' w m d v := by
  have hc : Carry φ φ M M' w w 0 0 := ⟨Nat.le_refl _, fun b hb => absurd hb (Nat.not_lt_zero b), fun _ _ _ => rfl, hM, fun b hb => absurd hb (Nat.not_lt_zero b)⟩
  induction h with
  | int => intro _; exact .int
  | bool => intro _; exact .bool
  | str => intro _; exact .str
  | sc h => intro _; exact .sc h
  | nil => intro _; exact .nil
  | undef => intro _; exact .undef
  | roE h => intro _; exact .roE h
  | ro g h1 h2 h3 h4 h5 h6 h7 h8 => intro _; exact .ro g h1 h2 (fun hk => h3 (hM _ h4 hk)) h4 h5 h6 h7 fun i e j d he hd => (h8 i e j d he hd).move hc (Nat.le_refl _) (Nat.le_refl _)
  | rp g h1 h2 h3 h4 => intro _; exact .rp g (fun hk => h1 (hM _ h2 hk)) h2 h3 fun i d hd => (h4 i d hd).move hc (Nat.le_refl _) (Nat.le_refl _)
  | sl k1 k2 k3 k4 k5 => intro hl; simp only [D.lt, decide_eq_true_eq] at hl; exact .sl hl k2 k3 k4 k5
  | ptr k1 => intro hl; simp only [D.lt, decide_eq_true_eq] at hl; exact .ptr hl
  | agg hn h ih => intro hl; exact .agg hn fun i d hd => ih i d hd (ltL_get (by simpa [D.lt] using hl) hd)
  | tup hn h ih => intro hl; exact .tup hn fun i d hd => ih i d hd (ltL_get (by simpa [D.lt] using hl) hd)
  | fn hn h ih => intro hl; exact .fn hn fun i d hd => ih i d hd (ltL_get (by simpa [D.lt] using hl) hd)
/-- Slots that are kept. -/
def subT (n : Nat) (T : List (Nat × D)) : List (Nat × D) → Prop
  | [] => True
  | (k, d) :: l => lk T k = some d ∧ d.lt n = true ∧ subT n T l
def subH (n : Nat) (H : List (Nat × Blk)) : List (Nat × Blk) → Prop
  | [] => True
  | (k, B) :: l => lk H k = some B ∧ k < n ∧ B.flat = true ∧ subH n H l
theorem subT_get {n : Nat} {T : List (Nat × D)} : ∀ {l : List (Nat × D)}, subT n T l → ∀ {i : Nat} {d : D}, lk l i = some d → lk T i = some d ∧ d.lt n = true
  | [], _, i, d, h => by simp [lk] at h
  | (k, x) :: l, hs, i, d, h => by
    simp only [lk] at h
    split at h
    · rename_i hk; cases h; subst hk; exact ⟨hs.1, hs.2.1⟩
    · exact subT_get hs.2.2 h
theorem subH_get {n : Nat} {H : List (Nat × Blk)} : ∀ {l : List (Nat × Blk)}, subH n H l → ∀ {b : Nat} {B : Blk}, lk l b = some B → lk H b = some B ∧ b < n ∧ B.flat = true
  | [], _, i, d, h => by simp [lk] at h
  | (k, x) :: l, hs, i, d, h => by
    simp only [lk] at h
    split at h
    · rename_i hk; cases h; subst hk; exact ⟨hs.1, hs.2.1, hs.2.2.1⟩
    · exact subH_get hs.2.2.2 h
/-- At the head of a loop: fewer slots and blocks are known (flat blocks; in a function that was not called in place, and has deferred nothing). -/
theorem weak0 {s s' : St} (hT : subT s'.nx s.tm s'.tm) (hH : subH s'.nx s.hp s'.hp) (hnx : s'.nx ≤ s.nx) (hnt : s'.nt = s.nt) (hfr : s.fr = []) (hfr' : s'.fr = []) (hdf : s.df = []) (hdf' : s'.df = []) : Weak G s s' := by
  intro C φ a w hG hR
  have hM : ∀ k, Mut C.M φ s'.hp k → Mut C.M φ s.hp k := fun k hk => by
    rcases hk with hk | ⟨b, B, hb, rfl⟩
    · exact .inl hk
    · exact .inr ⟨b, B, (subH_get hH hb).1, rfl⟩
  refine ⟨φ, by rw [hnt]; exact hR.nt, fun i d hd => ?_, by rw [hfr', ← hfr]; exact hR.frn, fun i t vs h => by rw [hfr'] at h; simp at h, fun b B hb => ?_, fun b b' B B' hb hb' => ?_, by rw [hdf', ← hdf]; exact hR.dfn, fun i f l h => by rw [hdf'] at h; simp at h, hR.below, hR.fl, hR.M, hR.G⟩
  · obtain ⟨h1, h2⟩ := subT_get hT hd
    exact (hR.tm i d h1).lower (fun k _ hk => hM k hk) h2
  · obtain ⟨h1, h2, h3⟩ := subH_get hH hb
    obtain ⟨k1, k2, cs, k3⟩ := hR.hp b B h1
    refine ⟨h2, k2, cs, ⟨k3.heap, k3.size, k3.zs, k3.one, fun i e j x he hx => ?_⟩⟩
    have := k3.rd i e j x he hx
    rw [h3] at this ⊢
    exact this.move (r := 0) ⟨Nat.le_refl _, fun b hb => absurd hb (Nat.not_lt_zero b), fun _ _ _ => rfl, fun k _ hk => hM k hk, fun b hb => absurd hb (Nat.not_lt_zero b)⟩ (Nat.le_refl _) (Nat.le_refl _)
  · exact hR.inj b b' B B' (subH_get hH hb).1 (subH_get hH hb').1
/-- Fewer slots and blocks are known; what those know that called in place stays. -/
theorem weak1 {s s' : St} (hT : subT s.nx s.tm s'.tm) (hH : subH s.nx s.hp s'.hp) (hnx : s'.nx = s.nx) (hnt : s'.nt = s.nt) (hfr : s'.fr = s.fr) (hdf : s'.df = s.df) : Weak G s s' := by
  intro C φ a w hG hR
  have hM : ∀ k, Mut C.M φ s'.hp k → Mut C.M φ s.hp k := fun k hk => by
    rcases hk with hk | ⟨b, B, hb, rfl⟩
    · exact .inl hk
    · exact .inr ⟨b, B, (subH_get hH hb).1, rfl⟩
  have hmv : ∀ {n : Nat} {d : D} {v : Value}, Rd φ (Mut C.M φ s.hp) w n d v → Rd φ (Mut C.M φ s'.hp) w n d v := fun {n d v} h => h.move (r := n) ⟨Nat.le_refl _, fun _ _ _ => rfl, fun _ _ _ => rfl, fun k _ hk => hM k hk, fun b _ _ cs e fz h => ⟨cs, e, fz, h, rfl⟩⟩ (Nat.le_refl _) (Nat.le_refl _)
  refine ⟨φ, by rw [hnt]; exact hR.nt, fun i d hd => ?_, by rw [hfr]; exact hR.frn, fun i t vs h h2 j d hd => ?_, fun b B hb => ?_, fun b b' B B' hb hb' => ?_, by rw [hdf]; exact hR.dfn, fun i f l h => ?_, hR.below, hR.fl, hR.M, hR.G⟩
  · rw [hnx]
    exact hmv (hR.tm i d (subT_get hT hd).1)
  · rw [hnx]
    exact hmv (hR.fr i t vs (by rw [← hfr]; exact h) h2 j d hd)
  · obtain ⟨h1, h2, h3⟩ := subH_get hH hb
    obtain ⟨k1, k2, cs, k3⟩ := hR.hp b B h1
    refine ⟨by rw [hnx]; exact h2, k2, cs, ⟨k3.heap, k3.size, k3.zs, k3.one, fun i e j x he hx => ?_⟩⟩
    have := k3.rd i e j x he hx
    rw [h3] at this ⊢
    exact hmv this
  · exact hR.inj b b' B B' (subH_get hH hb).1 (subH_get hH hb').1
  · obtain ⟨cs, h1, h2, h3⟩ := hR.df i f l (by rw [← hdf]; exact h)
    refine ⟨cs, h1, h2, fun j d hj => ?_⟩
    rw [hnx]
    exact hmv (h3 j d hj)
/-! ### Less is known, and blocks bear other names -/
/-- Slots that are kept: their blocks' names are told anew (π: from the new names to the old ones), below n. -/
def renT (π : Nat → Nat) (n : Nat) (T : List (Nat × D)) : List (Nat × D) → Prop
  | [] => True
  | (k, d) :: l => lk T k = some (d.ren π) ∧ d.lt n = true ∧ renT π n T l
def renB (π : Nat → Nat) (n : Nat) (B B' : Blk) : Prop :=
  B.z = B'.z ∧ B.ty = B'.ty ∧ B.var = B'.var ∧ match B'.flat with
    | true => B.flat = true ∧ B.els = B'.els
    | false => B.flat = false ∧ B.els = D.renL π B'.els ∧ D.ltL n B'.els = true
def renH (π : Nat → Nat) (n : Nat) (H : List (Nat × Blk)) : List (Nat × Blk) → Prop
  | [] => True
  | (k, B') :: l => (match lk H (π k) with
    | some B => renB π n B B'
    | none => False) ∧ k < n ∧ renH π n H l
def renF (π : Nat → Nat) (n : Nat) : List (List (Nat × D)) → List (List (Nat × D)) → Prop
  | [], [] => True
  | t :: l, t' :: l' => renT π n t t' ∧ renF π n l l'
  | _, _ => False
def renDf (π : Nat → Nat) (n : Nat) : List (FuncId × List D) → List (FuncId × List D) → Prop
  | [], [] => True
  | (f, c) :: l, (f', c') :: l' => f = f' ∧ c = D.renL π c' ∧ D.ltL n c' = true ∧ renDf π n l l'
  | _, _ => False
/-- No two blocks that are kept are one. -/
def injK (π : Nat → Nat) (k : Nat) : List (Nat × Blk) → Prop
  | [] => True
  | (k', _) :: l => (π k' = π k → k' = k) ∧ injK π k l
def injH (π : Nat → Nat) : List (Nat × Blk) → Prop
  | [] => True
  | (k, _) :: l => injK π k l ∧ injH π l
theorem injK_get {π : Nat → Nat} {k : Nat} : ∀ {l : List (Nat × Blk)}, injK π k l → ∀ k' B, (k', B) ∈ l → π k' = π k → k' = k
  | [], _, k', B, h, _ => by simp at h
  | (q, x) :: l, hs, k', B, h, he => by
    rcases List.mem_cons.1 h with h | h
    · cases h; exact hs.1 he
    · exact injK_get hs.2 k' B h he
theorem renT_get {π : Nat → Nat} {n : Nat} {T : List (Nat × D)} : ∀ {l : List (Nat × D)}, renT π n T l → ∀ {i : Nat} {d : D}, lk l i = some d → lk T i = some (d.ren π) ∧ d.lt n = true
  | [], _, i, d, h => by simp [lk] at h
  | (k, x) :: l, hs, i, d, h => by
    simp only [lk] at h
    split at h
    · rename_i hk; cases h; subst hk; exact ⟨hs.1, hs.2.1⟩
    · exact renT_get hs.2.2 h
theorem renH_get {π : Nat → Nat} {n : Nat} {H : List (Nat × Blk)} : ∀ {l : List (Nat × Blk)}, renH π n H l → ∀ {b : Nat} {B' : Blk}, lk l b = some B' → ∃ B, lk H (π b) = some B ∧ renB π n B B' ∧ b < n
  | [], _, i, d, h => by simp [lk] at h
  | (k, x) :: l, hs, i, d, h => by
    simp only [lk] at h
    split at h
    · rename_i hk; cases h; subst hk
      have h1 := hs.1
      split at h1
      · rename_i B hB; exact ⟨B, hB, h1, hs.2.1⟩
      · exact h1.elim
    · exact renH_get hs.2.2 h
theorem lk_mem {α : Type} : ∀ {l : List (Nat × α)} {k : Nat} {x : α}, lk l k = some x → (k, x) ∈ l
  | [], k, x, h => by simp [lk] at h
  | (q, y) :: l, k, x, h => by
    simp only [lk] at h
    split at h
    · rename_i hk; cases h; subst hk; simp
    · exact List.mem_cons_of_mem _ (lk_mem h)
theorem injH_get {π : Nat → Nat} : ∀ {l : List (Nat × Blk)}, injH π l → ∀ {b b' : Nat} {B B' : Blk}, lk l b = some B → lk l b' = some B' → π b = π b' → b = b'
  | [], _, b, b', B, B', h, _, _ => by simp [lk] at h
  | (k, x) :: l, hs, b, b', B, B', h, h', he => by
    simp only [lk] at h h'
    split at h
    · rename_i hk
      split at h'
      · rename_i hk'; omega
      · subst hk; exact (injK_get hs.1 _ _ (lk_mem h') he.symm).symm
    · split at h'
      · rename_i hk'; subst hk'; exact injK_get hs.1 _ _ (lk_mem h) he
      · exact injH_get hs.2 h h' he
theorem renF_get {π : Nat → Nat} {n : Nat} : ∀ {F l : List (List (Nat × D))}, renF π n F l → l.length = F.length ∧ ∀ {i : Nat} {t' : List (Nat × D)}, l[i]? = some t' → ∃ t, F[i]? = some t ∧ renT π n t t'
  | [], [], _ => ⟨rfl, fun h => by simp at h⟩
  | [], _ :: _, h => h.elim
  | _ :: _, [], h => h.elim
  | t :: F, t' :: l, h => by
    obtain ⟨h1, h2⟩ := renF_get h.2
    refine ⟨by simp [h1], fun {i x} hx => ?_⟩
    cases i with
    | zero => simp at hx; subst hx; exact ⟨t, rfl, h.1⟩
    | succ i => exact h2 (by simpa using hx)
theorem renDf_get {π : Nat → Nat} {n : Nat} : ∀ {F l : List (FuncId × List D)}, renDf π n F l → l.length = F.length ∧ ∀ {i : Nat} {f : FuncId} {c : List D}, l[i]? = some (f, c) → F[i]? = some (f, D.renL π c) ∧ D.ltL n c = true
  | [], [], _ => ⟨rfl, fun h => by simp at h⟩
  | [], _ :: _, h => h.elim
  | _ :: _, [], h => h.elim
  | (f, c) :: F, (f', c') :: l, h => by
    obtain ⟨h1, h2⟩ := renDf_get h.2.2.2
    refine ⟨by simp [h1], fun {i x y} hx => ?_⟩
    cases i with
    | zero => simp at hx; obtain ⟨rfl, rfl⟩ := hx; exact ⟨by rw [← h.1, ← h.2.1]; rfl, h.2.2.1⟩
    | succ i => exact h2 (by simpa using hx)
/-- Fewer slots and blocks are known, and blocks may bear other names. -/
theorem weakR {s s' : St} (π : Nat → Nat) (hT : renT π s'.nx s.tm s'.tm) (hH : renH π s'.nx s.hp s'.hp) (hI : injH π s'.hp) (hnt : s'.nt = s.nt) (hF : renF π s'.nx s.fr s'.fr) (hD : renDf π s'.nx s.df s'.df) : Weak G s s' := by
  intro C φ a w hG hR
  have hM : ∀ k, Mut C.M (fun b => φ (π b)) s'.hp k → Mut C.M φ s.hp k := fun k hk => by
    rcases hk with hk | ⟨b, B, hb, rfl⟩
    · exact .inl hk
    · obtain ⟨B0, h1, _⟩ := renH_get hH hb
      exact .inr ⟨π b, B0, h1, rfl⟩
  have hmv : ∀ {d : D} {v : Value}, Rd φ (Mut C.M φ s.hp) w s.nx (d.ren π) v → d.lt s'.nx = true → Rd (fun b => φ (π b)) (Mut C.M (fun b => φ (π b)) s'.hp) w s'.nx d v := fun {d v} h hl =>
    h.unren (fun _ _ => rfl) (fun k _ hk => hM k hk) d rfl hl
  obtain ⟨f1, f2⟩ := renF_get hF
  obtain ⟨d1, d2⟩ := renDf_get hD
  refine ⟨fun b => φ (π b), by rw [hnt]; exact hR.nt, fun i d hd => ?_, by rw [f1]; exact hR.frn, fun i t vs h h2 j d hd => ?_, fun b B hb => ?_, fun b b' B B' hb hb' he => ?_, by rw [d1]; exact hR.dfn, fun i f l h => ?_, hR.below, hR.fl, hR.M, hR.G⟩
  · obtain ⟨h1, h2⟩ := renT_get hT hd
    exact hmv (hR.tm i _ h1) h2
  · obtain ⟨t0, h3, h4⟩ := f2 h
    obtain ⟨h5, h6⟩ := renT_get h4 hd
    exact hmv (hR.fr i t0 vs h3 h2 j _ h5) h6
  · obtain ⟨B0, h1, ⟨z1, z2, z3, z4⟩, h3⟩ := renH_get hH hb
    obtain ⟨k1, k2, cs, k3⟩ := hR.hp _ B0 h1
    refine ⟨h3, k2, cs, ?_⟩
    cases hfl : B.flat with
    | true =>
      rw [hfl] at z4
      obtain ⟨z5, z6⟩ := z4
      refine ⟨by rw [← z2]; exact k3.heap, by rw [← z1, ← z6]; exact k3.size, fun e he => by rw [← z1]; exact k3.zs e (by rw [z6]; exact he), k3.one, fun i e j x he hx => ?_⟩
      have := k3.rd i e j x (by rw [z6]; exact he) hx
      rw [z5] at this
      rw [hfl]
      rw [← z1]
      exact this.move (r := 0) ⟨Nat.le_refl _, fun b hb => absurd hb (Nat.not_lt_zero b), fun _ _ _ => rfl, fun k _ hk => hM k hk, fun b hb => absurd hb (Nat.not_lt_zero b)⟩ (Nat.le_refl _) (Nat.le_refl _)
    | false =>
      rw [hfl] at z4
      obtain ⟨z5, z6, z7⟩ := z4
      have hcl : ∀ e : D, e.cells.length = (e.ren π).cells.length := fun e => by cases e <;> simp [D.ren, D.cells, renL_map]
      have hcg : ∀ (e : D) (j : Nat) (x : D), e.cells[j]? = some x → (e.ren π).cells[j]? = some (x.ren π) := fun e j x hx => by
        cases e <;> simp only [D.cells, D.ren, renL_map, List.getElem?_map] at hx ⊢
        case agg => rw [hx]; rfl
        all_goals
          cases j with
          | zero => simp at hx; subst hx; simp [D.ren, renL_map]
          | succ j => simp at hx
      refine ⟨by rw [← z2]; exact k3.heap, ?_, fun e he => ?_, k3.one, fun i e j x he hx => ?_⟩
      · have := k3.size
        rw [z6, renL_map, List.length_map] at this
        rw [← z1]; exact this
      · rw [← z1, hcl e]
        exact k3.zs _ (by rw [z6, renL_map]; exact List.mem_map_of_mem he)
      · have := k3.rd i (e.ren π) j (x.ren π) (by rw [z6, renL_map, List.getElem?_map, he]; rfl) (hcg e j x hx)
        rw [z5] at this
        rw [hfl, ← z1]
        refine hmv this ?_
        have hle : e.lt s'.nx = true := ltL_get z7 he
        cases e <;> simp only [D.cells] at hx
        case agg l => exact ltL_get (by simpa [D.lt] using hle) hx
        all_goals
          cases j with
          | zero => simp at hx; subst hx; exact hle
          | succ j => simp at hx
  · obtain ⟨B0, h1, _⟩ := renH_get hH hb
    obtain ⟨B1, h2, _⟩ := renH_get hH hb'
    exact injH_get hI hb hb' (hR.inj _ _ _ _ h1 h2 he)
  · obtain ⟨h1, h2⟩ := d2 h
    obtain ⟨cs, k1, k2, k3⟩ := hR.df i f _ h1
    rw [renL_map] at k2 k3
    refine ⟨cs, k1, by simpa using k2, fun j d hj => ?_⟩
    exact hmv (k3 j (d.ren π) (by rw [List.getElem?_map, hj]; rfl)) (ltL_get h2 hj)
/-- New names to old ones: what is not listed keeps its name. -/
def pie (l : List (Nat × Nat)) (b : Nat) : Nat := match lk l b with
  | some k => k
  | none => b
theorem wk_of {P : Program} {F : Fns} (hF : F = fns P G) {s s' : St} (h : Weak G s s') : F.WK s s' := by subst hF; exact h
end Go.Proofs.YtppmomobjjpljaaDoor.E
end

/- Part KEQ. -/
section
/- A calculus for Go functions over an abstract memory: kinds of plain data; '==' of structs and arrays. Conditions: those of each theorem. -/
namespace Go.Proofs.YtppmomobjjpljaaDoor.E
open Go Go.RowKit
set_option linter.unusedVariables false
set_option linter.unusedSimpArgs false
set_option linter.unusedSectionVars false
/-- What kind of plain data: whole numbers, bools, texts, slices, structs and arrays of them. -/
inductive Y where
  | int (k : IntKind)
  | bool
  | str
  | sl (z : Nat) (e : Y)
  | agg (l : List Y)
def Y.mk : Y → List D → D
  | .agg _, ds => .agg ds
  | _, [d] => d
  | _, _ => .undef
mutual
/-- Cells of data of a kind. -/
def Y.has : Y → List D → Prop
  | .int k, ds => ∃ n, ds = [.int k n] ∧ (Lit.int k n).wf = true
  | .bool, ds => ∃ b, ds = [.bool b]
  | .str, ds => ∃ s : ByteArray, ds = [.str s] ∧ s.size ≤ maxLen
  | .sl z e, ds => ∃ l : List D, ds = [.ro l] ∧ l.length ≤ maxLen ∧ ∀ d, d ∈ l → ∃ c, d = e.mk c ∧ c.length = z ∧ Y.has e c
  | .agg l, ds => Y.hasL l ds
def Y.hasL : List Y → List D → Prop
  | [], ds => ds = []
  | y :: l, ds => ∃ a b, ds = a ++ b ∧ Y.has y a ∧ Y.hasL l b
end
theorem Y.mk_cells {y : Y} {c : List D} (h : y.has c) : (y.mk c).cells = c := by
  cases y with
  | int k => obtain ⟨n, rfl, _⟩ := h; rfl
  | bool => obtain ⟨b, rfl⟩ := h; rfl
  | str => obtain ⟨s, rfl, _⟩ := h; rfl
  | sl z e => obtain ⟨l, rfl, _⟩ := h; rfl
  | agg l => rfl
def offsOk (P : Program) (total : Nat) : Nat → List Field → Bool
  | o, [] => o == total
  | o, f :: l => f.offset == o && offsOk P total (o + P.cellsOf f.type) l
/-- The kind of a type. -/
def tyY (P : Program) : Nat → TypeId → Option Y
  | 0, _ => none
  | n + 1, t => match P.underlying t with
    | some .bool => some .bool
    | some (.int k) => some (.int k)
    | some .string => some .str
    | some (.slice e) => if P.cellsOf e = 0 then none else (tyY P n e).map (Y.sl (P.cellsOf e))
    | some (.struct fs) => if offsOk P (P.cellsOf t) 0 fs.toList then (fs.toList.mapM fun f => tyY P n f.type).map Y.agg else none
    | some (.array m e) => if P.cellsOf t = m * P.cellsOf e then (tyY P n e).map fun y => Y.agg (List.replicate m y) else none
    | _ => none

/-- Two cells are equal. -/
def eqD : D → D → Bool
  | .int _ a, .int _ b => a == b
  | .bool a, .bool b => a == b
  | .str a, .str b => a.toList == b.toList
  | _, _ => false
def eqL : List D → List D → Bool
  | [], [] => true
  | a :: l, b :: m => eqD a b && eqL l m
  | _, _ => false
theorem eqL_append : ∀ {a b c d : List D}, a.length = b.length → eqL (a ++ c) (b ++ d) = (eqL a b && eqL c d)
  | [], [], c, d, _ => by simp [eqL]
  | x :: a, y :: b, c, d, h => by simp [eqL, eqL_append (a := a) (b := b) (c := c) (d := d) (by simpa using h), Bool.and_assoc]
  | [], _ :: _, _, _, h => by simp at h
  | _ :: _, [], _, _, h => by simp at h
mutual
/-- Cells of a kind that '==' can compare. -/
def Y.kin : Y → List D → Prop
  | .int k, ds => ∃ n, ds = [.int k n]
  | .bool, ds => ∃ b, ds = [.bool b]
  | .str, ds => ∃ s : ByteArray, ds = [.str s]
  | .sl _ _, _ => False
  | .agg l, ds => Y.kinL l ds
def Y.kinL : List Y → List D → Prop
  | [], ds => ds = []
  | y :: l, ds => ∃ a b, ds = a ++ b ∧ Y.kin y a ∧ Y.kinL l b
end
theorem kinL_nil : Y.kinL [] [] := rfl
theorem kinL_int {k : IntKind} {n : Int} {l : List Y} {ds : List D} (h : Y.kinL l ds) : Y.kinL (.int k :: l) (.int k n :: ds) := ⟨[_], ds, rfl, ⟨n, rfl⟩, h⟩
theorem kinL_bool {b : Bool} {l : List Y} {ds : List D} (h : Y.kinL l ds) : Y.kinL (.bool :: l) (.bool b :: ds) := ⟨[_], ds, rfl, ⟨b, rfl⟩, h⟩
theorem kinL_str {s : ByteArray} {l : List Y} {ds : List D} (h : Y.kinL l ds) : Y.kinL (.str :: l) (.str s :: ds) := ⟨[_], ds, rfl, ⟨s, rfl⟩, h⟩
mutual
def Y.size : Y → Nat
  | .agg l => Y.sizeL l
  | .int _ => 1
  | .bool => 1
  | .str => 1
  | .sl _ _ => 1
def Y.sizeL : List Y → Nat
  | [] => 0
  | y :: l => y.size + Y.sizeL l
end
mutual
theorem Y.kin_len : ∀ {y : Y} {ds : List D}, y.kin ds → ds.length = y.size
  | .int k, ds, h => by obtain ⟨n, rfl⟩ := h; rfl
  | .bool, ds, h => by obtain ⟨n, rfl⟩ := h; rfl
  | .str, ds, h => by obtain ⟨n, rfl⟩ := h; rfl
  | .sl _ _, ds, h => h.elim
  | .agg l, ds, h => Y.kinL_len h
theorem Y.kinL_len : ∀ {l : List Y} {ds : List D}, Y.kinL l ds → ds.length = Y.sizeL l
  | [], ds, h => by rw [show ds = [] from h]; rfl
  | y :: l, ds, h => by
    obtain ⟨a, b, rfl, h1, h2⟩ := h
    rw [List.length_append, Y.kin_len h1, Y.kinL_len h2]; rfl
end
/-- A value of a kind, told cell by cell. -/
def Val (φ : Nat → Nat) (M : Nat → Prop) (w : World) (n : Nat) (y : Y) (v : Value) (ds : List D) : Prop :=
  y.kin ds ∧ match y with
    | .agg _ => ∃ cs : Array Value, v = .agg cs ∧ cs.size = ds.length ∧ ∀ i d, ds[i]? = some d → Rd φ M w n d (cs.getD i undef)
    | _ => ∃ d, ds = [d] ∧ Rd φ M w n d v
/-- Types that '==' compares part by part; m bounds how deep they are. -/
def eqTy (P : Program) : Nat → TypeId → Bool
  | 0, _ => false
  | m + 1, t => (P.info? t).isSome && match P.underlying t with
    | some .bool => true
    | some (.int _) => true
    | some .string => true
    | some (.struct fs) => !P.stoodInHeld t && fs.toList.all fun f => f.name != "_" && eqTy P m f.type && (P.cellsOf f.type == ((tyY P m f.type).map Y.size).getD 0)
    | some (.array k e) => eqTy P m e && (P.cellsOf e == ((tyY P m e).map Y.size).getD 0)
    | _ => false
section
variable {P : Program} {w : World} {φ : Nat → Nat} {M : Nat → Prop} {n : Nat}
theorem part_val {m : Nat} {t : TypeId} {y : Y} {xs : Array Value} {off : Nat} {ds : List D} (hy : tyY P m t = some y) (he : eqTy P m t = true) (hk : y.kin ds) (hz : P.cellsOf t = y.size) (hle : off + y.size ≤ xs.size)
    (hr : ∀ i d, ds[i]? = some d → Rd φ M w n d (xs.getD (off + i) undef)) : ∃ v, (part t xs off).run P w = .ok v w ∧ Val φ M w n y v ds := by
  have hl := Y.kin_len hk
  cases m with
  | zero => simp [tyY] at hy
  | succ m =>
    rw [tyY] at hy
    rw [eqTy, Bool.and_eq_true] at he
    obtain ⟨hi, he⟩ := he
    obtain ⟨i, hi⟩ := Option.isSome_iff_exists.1 hi
    have one : (∀ w, (isAgg t).run P w = .ok false w) → y.size = 1 → (∀ l, y ≠ .agg l) → ∃ v, (part t xs off).run P w = .ok v w ∧ Val φ M w n y v ds := fun ha h1 hn => by
      rw [h1] at hle hl
      have hx : xs[off]? = some xs[off] := Array.getElem?_eq_getElem (by omega)
      match ds, hl, hk, hr with
      | [d], _, hk, hr =>
        have h2 := hr 0 d rfl
        simp only [Nat.add_zero, Array.getD_eq_getD_getElem?, hx, Option.getD_some] at h2
        refine ⟨xs[off], by simp [part, ha, hx], hk, ?_⟩
        cases y with
        | agg l => exact absurd rfl (hn l)
        | _ => exact ⟨d, rfl, h2⟩
    have many : (∀ w, (isAgg t).run P w = .ok true w) → (∃ l, y = .agg l) → ∃ v, (part t xs off).run P w = .ok v w ∧ Val φ M w n y v ds := fun ha ⟨l, hn⟩ => by
      subst hn
      refine ⟨.agg (xs.extract off (off + P.cellsOf t)), by simp [part, ha, run_sizeOf w hi], hk, _, rfl, by simp; omega, fun j d hd => ?_⟩
      have h1 := hr j d hd
      have h2 : j < ds.length := (List.getElem?_eq_some_iff.1 hd).1
      rw [Array.getD_eq_getD_getElem?] at h1 ⊢
      rw [Array.getElem?_extract]
      rw [if_pos (by omega)]
      exact h1
    split at hy
    · rename_i hu; cases hy; exact one (fun w => by simp [isAgg, run_underlying hu]) rfl (fun l h => by cases h)
    · rename_i hu; cases hy; exact one (fun w => by simp [isAgg, run_underlying hu]) rfl (fun l h => by cases h)
    · rename_i hu; cases hy; exact one (fun w => by simp [isAgg, run_underlying hu]) rfl (fun l h => by cases h)
    · rename_i hu
      split at hy
      · cases hy
      · obtain ⟨ye, _, rfl⟩ := Option.map_eq_some_iff.1 hy
        exact hk.elim
    · rename_i hu
      split at hy
      · obtain ⟨ye, _, rfl⟩ := Option.map_eq_some_iff.1 hy
        exact many (fun w => by simp [isAgg, run_underlying hu]) ⟨_, rfl⟩
      · cases hy
    · rename_i hu
      split at hy
      · obtain ⟨ye, _, rfl⟩ := Option.map_eq_some_iff.1 hy
        exact many (fun w => by simp [isAgg, run_underlying hu]) ⟨_, rfl⟩
      · cases hy
    · cases hy
/-- '==' of values of one kind. -/
theorem eq_val : ∀ (m : Nat) (t : TypeId) (y : Y) (d : Nat) (vx vy : Value) (ds es : List D), tyY P m t = some y → eqTy P m t = true → m ≤ d → Val φ M w n y vx ds → Val φ M w n y vy es →
    (Op.equalIn d t vx vy).run P w = .ok (eqL ds es) w
  | 0, _, _, _, _, _, _, _, h, _, _, _, _ => by simp [tyY] at h
  | m + 1, t, y, 0, _, _, _, _, _, _, h, _, _ => by omega
  | m + 1, t, y, d + 1, vx, vy, ds, es, hy, he, hd, hx, hv => by
    have ih := eq_val m
    rw [tyY] at hy
    rw [eqTy, Bool.and_eq_true] at he
    obtain ⟨_, he⟩ := he
    obtain ⟨kx, hx⟩ := hx
    obtain ⟨ky, hv⟩ := hv
    split at hy
    · rename_i hu; cases hy
      obtain ⟨x, rfl⟩ := kx; obtain ⟨z, rfl⟩ := ky
      obtain ⟨_, e1, hx⟩ := hx; obtain ⟨_, e2, hv⟩ := hv
      cases e1; cases e2; cases hx; cases hv
      simp [run_equalIn_bool' w d t x z hu, eqL, eqD]
    · rename_i hu; cases hy
      obtain ⟨x, rfl⟩ := kx; obtain ⟨z, rfl⟩ := ky
      obtain ⟨_, e1, hx⟩ := hx; obtain ⟨_, e2, hv⟩ := hv
      cases e1; cases e2; cases hx; cases hv
      simp [run_equalIn_int w d t _ _ x z hu, eqL, eqD]
    · rename_i hu; cases hy
      obtain ⟨x, rfl⟩ := kx; obtain ⟨z, rfl⟩ := ky
      obtain ⟨_, e1, hx⟩ := hx; obtain ⟨_, e2, hv⟩ := hv
      cases e1; cases e2; cases hx; cases hv
      simp [run_equalIn_string w d t x z hu, eqL, eqD]
    · split at hy
      · cases hy
      · obtain ⟨ye, _, rfl⟩ := Option.map_eq_some_iff.1 hy
        exact kx.elim
    · rename_i fs hu
      rw [hu] at he
      simp only [Bool.and_eq_true, Bool.not_eq_true', List.all_eq_true] at he
      split at hy
      · rename_i ho
        obtain ⟨ys, hys, rfl⟩ := Option.map_eq_some_iff.1 hy
        obtain ⟨xs, rfl, sx, rx⟩ := hx
        obtain ⟨zs, rfl, sz, rz⟩ := hv
        have hf : P.fieldsOf t = fs := by simp [Program.fieldsOf, hu]
        rw [run_equalIn_struct w d t xs zs (by rw [hf]; exact hu) he.1, hf]
        have key : ∀ (l : List Field) (o : Nat) (ys : List Y) (ds es : List D), offsOk P (P.cellsOf t) o l = true → (l.mapM fun f => tyY P m f.type) = some ys → (∀ f ∈ l, f.name != "_" ∧ eqTy P m f.type = true ∧ P.cellsOf f.type = ((tyY P m f.type).map Y.size).getD 0) →
            Y.kinL ys ds → Y.kinL ys es → o + ds.length ≤ xs.size → o + es.length ≤ zs.size → (∀ i d, ds[i]? = some d → Rd φ M w n d (xs.getD (o + i) undef)) → (∀ i d, es[i]? = some d → Rd φ M w n d (zs.getD (o + i) undef)) →
            (Op.eqFields d xs zs l).run P w = .ok (eqL ds es) w := by
          intro l
          induction l with
          | nil =>
            intro o ys ds es _ hm _ h1 h2 _ _ _ _
            simp at hm; subst hm
            rw [show ds = [] from h1, show es = [] from h2]
            simp [Op.eqFields, eqL]
          | cons f l ihl =>
            intro o ys ds es ho hm hn h1 h2 hs1 hs2 hr1 hr2
            simp only [List.mapM_cons, Option.bind_eq_bind, Option.bind_eq_some_iff, Option.pure_def, Option.some.injEq] at hm
            obtain ⟨y, hy1, ys', hy2, rfl⟩ := hm
            obtain ⟨a1, b1, rfl, ka1, kb1⟩ := h1
            obtain ⟨a2, b2, rfl, ka2, kb2⟩ := h2
            obtain ⟨hn1, hn2, hn3⟩ := hn f (by simp)
            rw [hy1] at hn3
            simp only [Option.map_some, Option.getD_some] at hn3
            simp only [offsOk, Bool.and_eq_true, beq_iff_eq] at ho
            obtain ⟨rfl, ho⟩ := ho
            have l1 := Y.kin_len ka1
            have l2 := Y.kin_len ka2
            simp only [List.length_append] at hs1 hs2
            obtain ⟨va, pa, qa⟩ := part_val (xs := xs) (off := f.offset) hy1 hn2 ka1 hn3 (by omega) (fun i d hd => hr1 i d (by rw [List.getElem?_append_left (List.getElem?_eq_some_iff.1 hd).1]; exact hd))
            obtain ⟨vb, pb, qb⟩ := part_val (xs := zs) (off := f.offset) hy1 hn2 ka2 hn3 (by omega) (fun i d hd => hr2 i d (by rw [List.getElem?_append_left (List.getElem?_eq_some_iff.1 hd).1]; exact hd))
            have he1 := ih f.type y d va vb a1 a2 hy1 hn2 (by omega) qa qb
            have hrest := ihl (f.offset + P.cellsOf f.type) ys' b1 b2 ho hy2 (fun g hg => hn g (by simp [hg])) kb1 kb2 (by omega) (by omega)
              (fun i d hd => by
                have := hr1 (a1.length + i) d (by rw [List.getElem?_append_right (by omega)]; simpa using hd)
                rwa [show f.offset + (a1.length + i) = f.offset + P.cellsOf f.type + i by omega] at this)
              (fun i d hd => by
                have := hr2 (a2.length + i) d (by rw [List.getElem?_append_right (by omega)]; simpa using hd)
                rwa [show f.offset + (a2.length + i) = f.offset + P.cellsOf f.type + i by omega] at this)
            have hname : f.name ≠ "_" := by simpa using hn1
            rw [eqL_append (by omega)]
            simp only [Op.eqFields, if_pos hname, Sem.run_bind, pa, pb, he1, Result.andThen_ok]
            cases eqL a1 a2
            · simp
            · simpa using hrest
        refine key fs.toList 0 ys ds es ho hys (fun f hf => ?_) kx ky (by omega) (by omega) (fun i d hd => by rw [Nat.zero_add]; exact rx i d hd) (fun i d hd => by rw [Nat.zero_add]; exact rz i d hd)
        have := he.2 f hf
        simp only [beq_iff_eq] at this
        exact ⟨this.1.1, this.1.2, this.2⟩
      · cases hy
    · rename_i k e hu
      rw [hu] at he
      simp only [Bool.and_eq_true, beq_iff_eq] at he
      split at hy
      · rename_i ho
        obtain ⟨ye, hye, rfl⟩ := Option.map_eq_some_iff.1 hy
        rw [hye] at he
        simp only [Option.map_some, Option.getD_some] at he
        obtain ⟨xs, rfl, sx, rx⟩ := hx
        obtain ⟨zs, rfl, sz, rz⟩ := hv
        obtain ⟨i, hi⟩ : ∃ i, P.info? e = some i := by
          cases m with
          | zero => simp [tyY] at hye
          | succ m =>
            have := he.1
            rw [eqTy, Bool.and_eq_true] at this
            exact Option.isSome_iff_exists.1 this.1
        rw [run_equalIn_array w d xs zs hu hi]
        have key : ∀ (q o : Nat) (ds es : List D), Y.kinL (List.replicate q ye) ds → Y.kinL (List.replicate q ye) es → o * P.cellsOf e + ds.length ≤ xs.size → o * P.cellsOf e + es.length ≤ zs.size →
            (∀ i d, ds[i]? = some d → Rd φ M w n d (xs.getD (o * P.cellsOf e + i) undef)) → (∀ i d, es[i]? = some d → Rd φ M w n d (zs.getD (o * P.cellsOf e + i) undef)) →
            (Op.eqItems d e (P.cellsOf e) xs zs (List.range' o q)).run P w = .ok (eqL ds es) w := by
          intro q
          induction q with
          | zero =>
            intro o ds es h1 h2 _ _ _ _
            rw [show ds = [] from h1, show es = [] from h2]
            simp [Op.eqItems, eqL]
          | succ q ihq =>
            intro o ds es h1 h2 hs1 hs2 hr1 hr2
            obtain ⟨a1, b1, rfl, ka1, kb1⟩ := h1
            obtain ⟨a2, b2, rfl, ka2, kb2⟩ := h2
            have l1 := Y.kin_len ka1
            have l2 := Y.kin_len ka2
            simp only [List.length_append] at hs1 hs2
            obtain ⟨va, pa, qa⟩ := part_val (xs := xs) (off := o * P.cellsOf e) hye he.1 ka1 he.2 (by omega) (fun i d hd => hr1 i d (by rw [List.getElem?_append_left (List.getElem?_eq_some_iff.1 hd).1]; exact hd))
            obtain ⟨vb, pb, qb⟩ := part_val (xs := zs) (off := o * P.cellsOf e) hye he.1 ka2 he.2 (by omega) (fun i d hd => hr2 i d (by rw [List.getElem?_append_left (List.getElem?_eq_some_iff.1 hd).1]; exact hd))
            have he1 := ih e ye d va vb a1 a2 hye he.1 (by omega) qa qb
            have hz : (o + 1) * P.cellsOf e = o * P.cellsOf e + ye.size := by rw [Nat.add_mul, he.2]; omega
            have hrest := ihq (o + 1) b1 b2 kb1 kb2 (by omega) (by omega)
              (fun i d hd => by
                have := hr1 (a1.length + i) d (by rw [List.getElem?_append_right (by omega)]; simpa using hd)
                rwa [show o * P.cellsOf e + (a1.length + i) = (o + 1) * P.cellsOf e + i by omega] at this)
              (fun i d hd => by
                have := hr2 (a2.length + i) d (by rw [List.getElem?_append_right (by omega)]; simpa using hd)
                rwa [show o * P.cellsOf e + (a2.length + i) = (o + 1) * P.cellsOf e + i by omega] at this)
            rw [eqL_append (by omega), List.range'_succ]
            simp only [Op.eqItems, Sem.run_bind, pa, pb, he1, Result.andThen_ok]
            cases eqL a1 a2
            · simp
            · simpa using hrest
        rw [List.range_eq_range']
        exact key k 0 ds es kx ky (by omega) (by omega) (fun i d hd => by rw [Nat.zero_mul, Nat.zero_add]; exact rx i d hd) (fun i d hd => by rw [Nat.zero_mul, Nat.zero_add]; exact rz i d hd)
      · cases hy
    · cases hy
/-- What the calculus asks of '=='. -/
theorem eq_ok {T : TypeId} {l : List Y} {m : Nat} {ds es : List D} (hy : tyY P m T = some (.agg l)) (he : eqTy P m T = true) (hg : P.eqGuardType P.depth T = false) (hm : m ≤ 10000) (hx : Y.kinL l ds) (hv : Y.kinL l es) : EqOk P T (.agg ds) (.agg es) (eqL ds es) := by
  refine ⟨hg, fun φ M w n vx vy hX hV => ?_⟩
  cases hX with
  | agg sx rx =>
    cases hV with
    | agg sz rz => exact eq_val m T (.agg l) Op.maxDepth _ _ ds es hy he hm ⟨hx, _, rfl, sx, rx⟩ ⟨hv, _, rfl, sz, rz⟩
end
end Go.Proofs.YtppmomobjjpljaaDoor.E
end

/- Part KR. -/
section
/- Of the seat YtppmomobjjpljaaDoor: what a law's arguments read as, told to the calculus over an abstract memory; how a law's row follows from the contract of its function. Conditions: those of each theorem. -/

namespace Go.Proofs.YtppmomobjjpljaaDoor.E
open Go Go.RowKit Go.ChangeShapes Go.WideShapes Go.ChangeAt
set_option linter.unusedVariables false
set_option linter.unusedSimpArgs false
set_option linter.unusedSectionVars false
section
variable {H : Type} {enc : TypeId × Value → H} {P : Program} {w : World} {sp : Nat → Bool} {held : Bool} {φ : Nat → Nat} {M : Nat → Prop}
/-- Cells that are told. -/
def Told (φ : Nat → Nat) (M : Nat → Prop) (w : World) (y : Y) (cs : List Value) (ds : List D) : Prop :=
  ds.length = cs.length ∧ y.has ds ∧ ∀ i d, ds[i]? = some d → Rd φ M w 0 d (cs.getD i undef) ∧ (cs.getD i undef).oneCell' = true
theorem hasL_rep {y : Y} {z : Nat} : ∀ {l : List (List D)}, (∀ c, c ∈ l → y.has c) → Y.hasL (List.replicate l.length y) l.flatten
  | [], _ => by simp [Y.hasL]
  | c :: l, h => ⟨c, l.flatten, rfl, h c (by simp), hasL_rep (z := z) fun x hx => h x (by simp [hx])⟩
theorem getD_drop_take {cs : List Value} {o n i : Nat} (h : i < n) : ((cs.drop o).take n).getD i undef = cs.getD (o + i) undef := by
  simp [List.getD_eq_getElem?_getD, List.getElem?_take_of_lt h]
theorem told_struct {n fuel : Nat} {cs : List Value} (ih : ∀ t y cs x, tyY P n t = some y → DataW.trod enc P w 0 sp held fuel t cs = some x → ∃ ds, Told φ M w y cs ds) :
    ∀ (fs : List Field) (o : Nat) ys xs, offsOk P cs.length o fs = true → o ≤ cs.length → (fs.mapM fun f => tyY P n f.type) = some ys →
      (fs.mapM fun f => DataW.trod enc P w 0 sp held fuel f.type ((cs.drop f.offset).take (P.cellsOf f.type))) = some xs →
      ∃ ds, ds.length = cs.length - o ∧ Y.hasL ys ds ∧ ∀ i d, ds[i]? = some d → Rd φ M w 0 d (cs.getD (o + i) undef) ∧ (cs.getD (o + i) undef).oneCell' = true
  | [], o, ys, xs, ho, hle, hy, hx => by
    simp at hy
    subst hy
    simp [offsOk] at ho
    exact ⟨[], by simp; omega, rfl, fun i d h => by simp at h⟩
  | f :: fs, o, ys, xs, ho, hle, hy, hx => by
    simp only [List.mapM_cons, Option.bind_eq_bind, Option.bind_eq_some_iff, Option.pure_def, Option.some.injEq] at hy hx
    obtain ⟨y, hy1, ys', hy2, rfl⟩ := hy
    obtain ⟨x, hx1, xs', hx2, rfl⟩ := hx
    simp only [offsOk, Bool.and_eq_true, beq_iff_eq] at ho
    obtain ⟨rfl, ho⟩ := ho
    obtain ⟨d1, h1, h2, h3⟩ := ih _ _ _ _ hy1 hx1
    have hle2 : f.offset + P.cellsOf f.type ≤ cs.length := by
      have : ∀ (l : List Field) (o : Nat), offsOk P cs.length o l = true → o ≤ cs.length := by
        intro l
        induction l with
        | nil => intro o h; simp [offsOk] at h; omega
        | cons g l ih => intro o h; simp only [offsOk, Bool.and_eq_true, beq_iff_eq] at h; have := ih _ h.2; omega
      exact this _ _ ho
    have hl1 : d1.length = P.cellsOf f.type := by simp at h1; omega
    obtain ⟨d2, k1, k2, k3⟩ := told_struct ih fs _ _ _ ho hle2 hy2 hx2
    refine ⟨d1 ++ d2, by simp; omega, ⟨d1, d2, rfl, h2, k2⟩, fun i d hd => ?_⟩
    rw [List.getElem?_append] at hd
    split at hd
    · rename_i hi
      have := h3 i d hd
      rwa [getD_drop_take (by omega)] at this
    · rename_i hi
      have := k3 _ d hd
      rwa [show f.offset + P.cellsOf f.type + (i - d1.length) = f.offset + i by omega] at this
theorem told_of_trod (hM : ∀ k, ¬ M k) : ∀ (n fuel : Nat) (t : TypeId) (y : Y) (cs : List Value) x, tyY P n t = some y → DataW.trod enc P w 0 sp held fuel t cs = some x → ∃ ds, Told φ M w y cs ds
  | 0, _, _, _, _, _, h, _ => by simp [tyY] at h
  | _, 0, _, _, _, _, _, h => by simp [DataW.trod] at h
  | n + 1, fuel + 1, t, y, cs, x, hy, hx => by
    have ih := told_of_trod hM n fuel
    rw [tyY] at hy
    split at hy
    · rename_i hu
      cases hy
      simp only [DataW.trod, hu] at hx
      split at hx <;> try (simp at *; done)
      rename_i b h1
      exact ⟨[.bool b], rfl, ⟨b, rfl⟩, fun i d hd => by
        rcases i with _ | i
        · simp at hd; subst hd; exact ⟨.bool, rfl⟩
        · simp at hd⟩
    · rename_i k hu
      cases hy
      simp only [DataW.trod, hu] at hx
      split at hx <;> try (simp at *; done)
      rename_i k1 k2 m h1
      cases h1
      split at hx
      · rename_i h2
        obtain ⟨rfl, h3⟩ := h2
        exact ⟨[.int _ m], rfl, ⟨m, rfl, h3⟩, fun i d hd => by cases i with
          | zero => simp at hd; subst hd; exact ⟨.int, rfl⟩
          | succ i => simp at hd⟩
      · cases hx
    · rename_i hu
      cases hy
      simp only [DataW.trod, hu] at hx
      split at hx <;> try (simp at *; done)
      rename_i s h1
      split at hx
      · rename_i h2
        exact ⟨[.str s], rfl, ⟨s, rfl, h2⟩, fun i d hd => by cases i with
          | zero => simp at hd; subst hd; exact ⟨.str, rfl⟩
          | succ i => simp at hd⟩
      · cases hx
    · rename_i e hu
      split at hy
      · cases hy
      rename_i hz0
      obtain ⟨ye, hye, rfl⟩ := Option.map_eq_some_iff.1 hy
      simp only [DataW.trod, hu] at hx
      split at hx <;> try (simp at *; done)
      · exact ⟨[.ro []], rfl, ⟨[], rfl, by simp, by simp⟩, fun i d hd => by
          rcases i with _ | i
          · simp at hd; subst hd; exact ⟨.roE fun _ => rfl, rfl⟩
          · simp at hd⟩
      · rename_i e' a len cap h1
        cases h1
        split at hx
        · rename_i hb
          obtain ⟨elems, he, hx⟩ := Option.bind_eq_some_iff.1 hx
          have hel : ∀ i, i < len → ∃ (xs : List Value) (c : List D), w.cells? 0 (a.add (i * P.cellsOf e)) (P.cellsOf e) = some xs ∧ Told φ M w ye xs c := fun i hi => by
            obtain ⟨b, _, h3⟩ := Lib.mapM_at he i i (by simp [hi])
            obtain ⟨xs, h4, h5⟩ := Option.bind_eq_some_iff.1 h3
            obtain ⟨c, hc⟩ := ih _ _ _ _ hye h5
            exact ⟨xs, c, h4, hc⟩
          rcases Nat.eq_zero_or_pos len with rfl | hpos
          · exact ⟨[.ro []], rfl, ⟨[], rfl, by simp, by simp⟩, fun i d hd => by
              rcases i with _ | i
              · simp at hd; subst hd; exact ⟨.roE (fun h => by cases h), rfl⟩
              · simp at hd⟩
          obtain ⟨k, o, spot⟩ := a
          have hspot : spot = none := by
            obtain ⟨xs, c, h4, _⟩ := hel 0 hpos
            obtain ⟨_, h5, h6⟩ := World.cells?_some h4
            have h7 := h6 0 (by omega)
            obtain ⟨v, hv⟩ : ∃ v, xs[0]? = some v := ⟨_, List.getElem?_eq_getElem (by omega)⟩
            rw [hv] at h7
            simpa [Addr.add] using World.cell?_spot h7
          subst hspot
          let f : Nat → List D := fun i => if h : i < len then (hel i h).choose_spec.choose else []
          have hf : ∀ i, i < len → ∃ xs : List Value, w.cells? 0 ((⟨k, o, none⟩ : Addr).add (i * P.cellsOf e)) (P.cellsOf e) = some xs ∧ Told φ M w ye xs (f i) := fun i hi => by
            simp only [f, dif_pos hi]
            exact ⟨_, (hel i hi).choose_spec.choose_spec⟩
          have hlen : ∀ i, i < len → (f i).length = P.cellsOf e := fun i hi => by
            obtain ⟨xs, h4, h5, _⟩ := hf i hi
            obtain ⟨_, h6, _⟩ := World.cells?_some h4
            omega
          have hget : ∀ (i : Nat) (d : D), ((List.range len).map fun i => ye.mk (f i))[i]? = some d → i < len ∧ d = ye.mk (f i) := fun i d hd => by
            rw [List.getElem?_map, Option.map_eq_some_iff] at hd
            obtain ⟨q, hq, rfl⟩ := hd
            rcases Nat.lt_or_ge i len with h | h
            · rw [List.getElem?_range h] at hq
              cases hq
              exact ⟨h, rfl⟩
            · rw [List.getElem?_eq_none (by simp; omega)] at hq; cases hq
          have hcell : ∀ i, i < len → ∀ j d, (ye.mk (f i)).cells[j]? = some d → ∃ v, w.cell? ⟨k, o + (i * P.cellsOf e + j), none⟩ = some v ∧ Rd φ M w 0 d v ∧ v.oneCell' = true := fun i hi j d hd => by
            obtain ⟨xs, h4, h5, h6, h7⟩ := hf i hi
            rw [Y.mk_cells h6] at hd
            obtain ⟨_, h8, h9⟩ := World.cells?_some h4
            have hj : j < xs.length := by
              have := (List.getElem?_eq_some_iff.1 hd).1
              omega
            have h10 := h9 j (by omega)
            obtain ⟨v, hv⟩ : ∃ v, xs[j]? = some v := ⟨_, List.getElem?_eq_getElem hj⟩
            have h11 := h7 j d hd
            rw [List.getD_eq_getElem?_getD, hv] at h11
            rw [hv] at h10
            refine ⟨v, ?_, h11⟩
            rwa [add_plain, add_plain, Nat.add_assoc] at h10
          refine ⟨[.ro ((List.range len).map fun i => ye.mk (f i))], rfl, ⟨_, rfl, by simp; omega, fun d hd => ?_⟩, fun i d hd => ?_⟩
          · obtain ⟨i, hi, rfl⟩ := List.mem_map.1 hd
            have hi : i < len := by simpa using hi
            obtain ⟨xs, _, _, h6, _⟩ := hf i hi
            exact ⟨f i, rfl, hlen i hi, h6⟩
          · cases i with
            | succ i => simp at hd
            | zero =>
              simp at hd
              subst hd
              refine ⟨?_, rfl⟩
              have hk : k < w.heap.size := by
                obtain ⟨xs, h4, _⟩ := hf 0 hpos
                have := World.cells?_block h4 (by omega)
                rwa [add_plain] at this
              have hR := Rd.ro (φ := φ) (M := M) (w := w) (n := 0) (l := (List.range len).map fun i => ye.mk (f i)) (k := k) (o := o) (z := P.cellsOf e) (c := cap) (fun q => (w.cell? ⟨k, o + q, none⟩).getD undef) (by simp; omega) (by omega) (hM k) hk
                (fun x hx => by
                  obtain ⟨i, hi, rfl⟩ := List.mem_map.1 hx
                  have hi : i < len := by simpa using hi
                  obtain ⟨xs, _, _, h6, _⟩ := hf i hi
                  rw [Y.mk_cells h6]; exact hlen i hi)
                (fun i x j d hx hd => by
                  obtain ⟨hi, rfl⟩ := hget i x hx
                  obtain ⟨v, h1, _⟩ := hcell i hi j d hd
                  simp [h1])
                (fun i x j d hx hd => by
                  obtain ⟨hi, rfl⟩ := hget i x hx
                  obtain ⟨v, h1, _, h3⟩ := hcell i hi j d hd
                  simpa [h1] using h3)
                (fun i x j d hx hd => by
                  obtain ⟨hi, rfl⟩ := hget i x hx
                  obtain ⟨v, h1, h2, _⟩ := hcell i hi j d hd
                  simpa [h1] using h2)
              simpa using hR
        · cases hx
    · rename_i fs hu
      split at hy
      · rename_i ho
        obtain ⟨ys, hys, rfl⟩ := Option.map_eq_some_iff.1 hy
        simp only [DataW.trod, hu] at hx
        split at hx <;> try (simp at *; done)
        rename_i hl
        obtain ⟨xs, hxs, _⟩ := Option.map_eq_some_iff.1 hx
        rw [← hl] at ho
        obtain ⟨ds, h1, h2, h3⟩ := told_struct (fun t y cs x => ih t y cs x) fs.toList 0 ys xs ho (Nat.zero_le _) hys hxs
        exact ⟨ds, by simpa using h1, h2, fun i d hd => by simpa using h3 i d hd⟩
      · cases hy
    · rename_i m e hu
      split at hy
      · rename_i ho
        obtain ⟨ye, hye, rfl⟩ := Option.map_eq_some_iff.1 hy
        simp only [DataW.trod, hu] at hx
        split at hx <;> try (simp at *; done)
        rename_i hl
        obtain ⟨xs, hxs, _⟩ := Option.map_eq_some_iff.1 hx
        have key : ∀ q, q ≤ m → ∃ l : List (List D), l.length = q ∧ (∀ c, c ∈ l → ye.has c) ∧ l.flatten.length = q * P.cellsOf e ∧ ∀ i d, l.flatten[i]? = some d → Rd φ M w 0 d (cs.getD i undef) ∧ (cs.getD i undef).oneCell' = true := by
          intro q
          induction q with
          | zero => intro _; exact ⟨[], rfl, by simp, by simp, fun i d h => by simp at h⟩
          | succ q ihq =>
            intro hq
            obtain ⟨l, h1, h2, h3, h4⟩ := ihq (by omega)
            obtain ⟨b, _, h5⟩ := Lib.mapM_at hxs q q (by simp only [List.getElem?_range (show q < m by omega)])
            obtain ⟨c, k1, k2, k3⟩ := ih _ _ _ _ hye h5
            have hle : q * P.cellsOf e + P.cellsOf e ≤ cs.length := by
              rw [hl, ho]
              calc q * P.cellsOf e + P.cellsOf e = (q + 1) * P.cellsOf e := by rw [Nat.add_mul]; omega
                _ ≤ m * P.cellsOf e := Nat.mul_le_mul_right _ hq
            have hc : c.length = P.cellsOf e := by rw [k1]; simp; omega
            refine ⟨l ++ [c], by simp [h1], fun x hx => ?_, by simp only [List.flatten_append, List.length_append, h3, Nat.add_mul]; simp [hc], fun i d hd => ?_⟩
            · rcases List.mem_append.1 hx with h | h
              · exact h2 x h
              · rw [List.mem_singleton.1 h]; exact k2
            · rw [List.flatten_append, List.getElem?_append] at hd
              split at hd
              · exact h4 i d hd
              · rename_i hi
                have hd' : c[i - l.flatten.length]? = some d := by simpa using hd
                have h7 := k3 _ d hd'
                have h8 := (List.getElem?_eq_some_iff.1 hd').1
                rw [getD_drop_take (by omega), show q * P.cellsOf e + (i - l.flatten.length) = i by omega] at h7
                exact h7
        obtain ⟨l, h1, h2, h3, h4⟩ := key m (Nat.le_refl _)
        refine ⟨l.flatten, by rw [h3, hl, ho], ?_, h4⟩
        have := hasL_rep (z := 0) h2
        rwa [h1] at this
      · cases hy
    · cases hy
end
end Go.Proofs.YtppmomobjjpljaaDoor.E
end

/- Part KR2. -/
section
/- Of the seat YtppmomobjjpljaaDoor: a law's statement follows from the contract of its function. Conditions: those of each theorem. -/
namespace Go.Proofs.YtppmomobjjpljaaDoor.E
open Go Go.RowKit Go.ChangeShapes Go.WideShapes Go.ChangeAt
set_option linter.unusedVariables false
set_option linter.unusedSimpArgs false
set_option linter.unusedSectionVars false
section
variable {H : Type} {enc : TypeId × Value → H} {P : Program} {w : World} {sp : Nat → Bool} {held : Bool} {φ : Nat → Nat} {M : Nat → Prop}
theorem arg_told (hM : ∀ k, ¬ M k) {n : Nat} {t : TypeId} {y : Y} {r : Reach} {base : Nat} {v : Value} {dd : DataW H} {ps : List MemPlace} (hy : tyY P n t = some y) (hval : Value.okWide P w r base t v) (h : DataW.Trod enc P w 0 sp held t v dd ps) :
    ∃ c, y.has c ∧ Rd φ M w 0 (y.mk c) v := by
  obtain ⟨fuel, hf⟩ := h
  obtain ⟨ds, h1, h2, h3⟩ := told_of_trod (φ := φ) hM n fuel t y _ _ hy hf
  have one : v.cells.toList = [v] → (∀ d, ds = [d] → y.mk ds = d) → ∃ c, y.has c ∧ Rd φ M w 0 (y.mk c) v := fun he hk => by
    rw [he] at h1 h3
    match ds, h1, h2, h3, hk with
    | [d], _, h2, h3, hk =>
      refine ⟨[d], h2, ?_⟩
      rw [hk d rfl]
      simpa using (h3 0 d rfl).1
  have many : (∃ cs, v = .agg cs) → (∀ d, y.mk d = .agg d) → ∃ c, y.has c ∧ Rd φ M w 0 (y.mk c) v := fun ⟨cs, he⟩ hk => by
    subst he
    refine ⟨ds, h2, ?_⟩
    rw [hk]
    refine .agg (by simpa [Value.cells] using h1.symm) fun i d hd => ?_
    have := (h3 i d hd).1
    simpa [Value.cells, Array.getD_eq_getD_getElem?, List.getD_eq_getElem?_getD] using this
  cases n with
  | zero => simp [tyY] at hy
  | succ n =>
    rw [tyY] at hy
    split at hy
    · rename_i hu; cases hy; obtain ⟨b, rfl⟩ := okWide_bool hu hval; exact one rfl fun d h => by subst h; rfl
    · rename_i hu; cases hy; obtain ⟨b, rfl⟩ := okWide_int hu hval; exact one rfl fun d h => by subst h; rfl
    · rename_i hu; cases hy; obtain ⟨b, rfl⟩ := okWide_string hu hval; exact one rfl fun d h => by subst h; rfl
    · rename_i hu
      obtain ⟨a, l, c, rfl⟩ := okWide_slice hu hval
      split at hy
      · cases hy
      · obtain ⟨ye, _, rfl⟩ := Option.map_eq_some_iff.1 hy
        exact one rfl fun d h => by subst h; rfl
    · rename_i hu
      obtain ⟨cs, rfl, _⟩ := okWide_struct hu hval
      split at hy
      · obtain ⟨ye, _, rfl⟩ := Option.map_eq_some_iff.1 hy
        exact many ⟨_, rfl⟩ fun d => rfl
      · cases hy
    · rename_i hu
      have : ∃ cs, v = .agg cs := by
        unfold Value.okWide at hval
        rw [hu] at hval
        obtain ⟨cs, rfl, _⟩ := hval
        exact ⟨cs, rfl⟩
      split at hy
      · obtain ⟨ye, _, rfl⟩ := Option.map_eq_some_iff.1 hy
        exact many this fun d => rfl
      · cases hy
    · cases hy
/-- The arguments of a call, each of its kind. -/
def argsHas : List Y → List D → Prop
  | [], [] => True
  | y :: ys, d :: ds => (∃ c, d = y.mk c ∧ y.has c) ∧ argsHas ys ds
  | _, _ => False
theorem argsHas_cons {y : Y} {ys : List Y} {Ds : List D} (h : argsHas (y :: ys) Ds) : ∃ d ds, Ds = d :: ds ∧ (∃ c, d = y.mk c ∧ y.has c) ∧ argsHas ys ds := by
  cases Ds with
  | nil => exact h.elim
  | cons d ds => exact ⟨d, ds, rfl, h.1, h.2⟩
theorem argsHas_nil {Ds : List D} (h : argsHas [] Ds) : Ds = [] := by
  cases Ds with
  | nil => rfl
  | cons d ds => exact h.elim
theorem args_told (hM : ∀ k, ¬ M k) {n : Nat} {r : Reach} {base : Nat} : ∀ {ts : List TypeId} {ys : List Y} {vs : List Value} {dds : List (DataW H)} {ps : List MemPlace}, ts.mapM (tyY P n) = some ys →
    (∀ (j : Nat) t v, ts[j]? = some t → vs[j]? = some v → Value.okWide P w r base t v) → DataW.TrodAll enc P w 0 sp held ts vs dds ps →
    ∃ Ds, argsHas ys Ds ∧ Ds.length = vs.length ∧ dds.length = vs.length ∧ vs.length = ts.length ∧ ∀ i d, Ds[i]? = some d → Rd φ M w 0 d (vs.getD i undef)
  | [], ys, vs, dds, ps, hy, hv, h => by
    obtain ⟨rfl, rfl, rfl⟩ := trodAll_nil h
    simp at hy
    subst hy
    exact ⟨[], trivial, rfl, rfl, rfl, fun i d h => by simp at h⟩
  | t :: ts, ys, vs, dds, ps, hy, hv, h => by
    obtain ⟨v, vs', d, ds', p, q, rfl, rfl, rfl, h1, h2⟩ := trodAll_cons h
    simp only [List.mapM_cons, Option.bind_eq_bind, Option.bind_eq_some_iff, Option.pure_def, Option.some.injEq] at hy
    obtain ⟨y, hy1, ys', hy2, rfl⟩ := hy
    obtain ⟨c, hc, hr⟩ := arg_told (φ := φ) hM hy1 (hv 0 t v rfl rfl) h1
    obtain ⟨Ds, k1, k2, k3, k4, k5⟩ := args_told hM hy2 (fun j t v ht hv' => hv (j + 1) t v (by simpa using ht) (by simpa using hv')) h2
    refine ⟨y.mk c :: Ds, ⟨⟨c, rfl, hc⟩, k1⟩, by simp [k2], by simp [k3], by simp [k4], fun i d hd => ?_⟩
    cases i with
    | zero => simp at hd; subst hd; simpa using hr
    | succ i => simpa using k5 i d (by simpa using hd)
theorem args_stay {W W' : World} (hl : laidOutB P = true) (hb : Below W.heap.size W W') : ∀ {ts : List TypeId} {vs : List Value} {dds : List (DataW H)} {ps : List MemPlace}, (ts.all fun t => P.readableRec t && decide (t < P.types.size)) = true →
    DataW.TrodAll enc P W 0 (fun _ => true) true ts vs dds ps → (∀ x ∈ ps, x.block < W.heap.size) → DataW.TrodAll enc P W' 0 (fun b => decide (b < W.heap.size)) true ts vs dds ps
  | [], vs, dds, ps, hr, h, hlt => by
    obtain ⟨rfl, rfl, rfl⟩ := trodAll_nil h
    rfl
  | t :: ts, vs, dds, ps, hr, h, hlt => by
    obtain ⟨v, vs', d, ds', p, q, rfl, rfl, rfl, h1, h2⟩ := trodAll_cons h
    simp only [List.all_cons, Bool.and_eq_true, decide_eq_true_eq] at hr
    exact trodAll_cons_mk (Below.trod hl hr.1.1 hr.1.2 h1 hb fun x hx => hlt x (by simp [hx])) (args_stay hl hb (by simpa using hr.2) h2 fun x hx => hlt x (by simp [hx]))
/-- A listed table of whole numbers. -/
theorem grel_tab {G : List (Nat × D)} {name : String} {k : IntKind} {zs : List Int} {g : Nat} (hT : Lib.TabIs P w name k zs) (hg : P.globalNamed name = some g) (hz : 0 < zs.length) (hG : GRel G (fun _ => False) w.heap.size w) :
    GRel ((g, .agg (zs.map (D.int k))) :: G) (fun _ => False) w.heap.size w := by
  intro g' e h
  simp only [lk] at h
  split at h
  · rename_i he
    subst he
    cases h
    have hlt : g < w.heap.size := by
      have := hT.cell hg 0 hz
      unfold World.cell? at this
      rcases Nat.lt_or_ge g w.heap.size with h | h
      · exact h
      · rw [Array.getElem?_eq_none h] at this
        cases this
    refine ⟨fun h => h, hlt, fun φ => ?_⟩
    refine .rp (o := 0) (fun i => .int k (zs.getD i 0)) (fun h => by rcases h with h | h; exact h; omega) hlt (fun i d hd => ?_) (fun i d hd => ?_)
    · simp only [D.cells, List.getElem?_map, Option.map_eq_some_iff] at hd
      obtain ⟨z, hz, rfl⟩ := hd
      rw [Nat.zero_add]
      exact hT.cell hg i (List.getElem?_eq_some_iff.1 hz).1
    · simp only [D.cells, List.getElem?_map, Option.map_eq_some_iff] at hd
      obtain ⟨z, hz, rfl⟩ := hd
      rw [List.getD_eq_getElem?_getD, hz]
      exact .int
  · exact hG g' e h
theorem grel_nil : GRel [] (fun _ => False) w.heap.size w := fun g e h => by simp [lk] at h
end
/-- THE LAW: its function's contract says that it returns true whatever it is called with. -/
theorem law_lifted {H : Type} {enc : TypeId × Value → H} {C : Checked} {os : Os} {f : FuncId} {fn : Func} {s : ChangeSpec} {F : Stop.Interp} {laid : List (String × DataW Unit)} {G : List (Nat × D)} {n : Nat} {ys : List Y} {tb : TypeId}
    (own : ownKnob C.prog.godebug = none) (started : os.Started) (noInit : C.prog.inits.idxOf? f = none) (hfn : C.prog.funcs[f]? = some fn) (hvars : s.vars = []) (hlo : laidOutB C.prog = true)
    (hres : fn.resultTypes.toList = [tb]) (hb : C.prog.underlying tb = some .bool) (hy : fn.params.toList.mapM (tyY C.prog n) = some ys) (hread : (fn.params.toList.all fun t => C.prog.readableRec t && decide (t < C.prog.types.size)) = true)
    (witness : ∃ (w : World) (tape : Tape) (i : Input), w.os = os ∧ (w.forCall tape i).Shaped C.prog ∧ i.vars = [] ∧ Input.okWide C.prog (w.forCall tape i) .any w.heap.size f i ∧
      (OpenSpec.ofChange s).preRow enc C.prog fn [] false laid (w.forCall tape i).memory i.args ∧ ({ modest := false } : Assume).holds C.prog (lone (Frame.enter C.prog f i.args .normal) [] (w.forCall tape i)))
    (hG : ∀ W : World, laidMetH C.prog laid W → W.ShapedOpen C.prog → GRel G (fun _ => False) W.heap.size W)
    (hspec : ∀ (ds : List (DataW H)), ds.length = fn.params.toList.length → s.fn H ds = { results := [.lit (.bool true)], args := ds })
    (hlaw : ∀ Ds, argsHas ys Ds → Contract C.prog G f Ds (.bool true) []) :
    ReturnsInHanded { modest := false } C os f .any ((OpenSpec.ofChange s).preRow enc C.prog fn [] false laid) (((OpenSpec.ofChange s).at F).post enc C.prog fn false true false false) := by
  refine returnsInHanded_of_row (C := C) (s := OpenSpec.ofChange s) (F := F) own started noInit hfn witness ?_
  intro W base args ds gs before hval hW _ _ _ hL hsh _
  have hW' := hW
  obtain ⟨p, q, hA, hV, rfl, _, _⟩ := hW
  have hV' : DataW.TrodVars enc C.prog W (fun _ => true) s.vars gs q := hV
  rw [hvars] at hV'
  obtain ⟨rfl, rfl⟩ := trodVars_none hV'
  obtain ⟨Ds, h1, h2, h3, h4, h5⟩ := args_told (φ := id) (M := fun _ => False) (fun k h => h) hy (fun j t v ht hv => hval j t v (by simpa using ht) (by simpa using hv)) hA
  have hlt : ∀ x ∈ p, x.block < W.heap.size := fun x hx => by simpa using hW'.lt x (by simpa using hx)
  have hc := (hlaw Ds h1).2 (fun _ => False) W args id (fun k h => h.elim) (hG W hL hsh) ⟨by simpa using h2.symm, fun i d hd => by
    have := h5 i d hd
    simpa [Array.getD_eq_getD_getElem?, List.getD_eq_getElem?_getD] using this⟩
  refine hc.mono fun e W' ⟨v, φ, he, bel, _, _, hr⟩ => ?_
  cases hr
  refine ⟨_, he, ds, [], p ++ [], [], p, [], hW', ?_, ?_, ?_, bel.frame _, fun h => by cases h⟩
  · have e1 : (((OpenSpec.ofChange s).at F).fn H (ds ++ [])) = { results := [.lit (.bool true)], args := ds } := by
      rw [List.append_nil]; exact hspec ds (by omega)
    have hsz : fn.resultTypes.size = 1 := by rw [← Array.length_toList, hres]; rfl
    rw [e1, hres, hsz]
    exact trodAll_mk1 (shut_bool hb _)
  · have e1 : (((OpenSpec.ofChange s).at F).fn H (ds ++ [])) = { results := [.lit (.bool true)], args := ds } := by
      rw [List.append_nil]; exact hspec ds (by omega)
    rw [e1]
    exact args_stay hlo bel hread hA hlt
  · have e1 : (((OpenSpec.ofChange s).at F).fn H (ds ++ [])) = { results := [.lit (.bool true)], args := ds } := by
      rw [List.append_nil]; exact hspec ds (by omega)
    rw [e1]
    show DataW.TrodVars enc C.prog W' _ s.vars [] []
    rw [hvars]
    rfl
end Go.Proofs.YtppmomobjjpljaaDoor.E
end
