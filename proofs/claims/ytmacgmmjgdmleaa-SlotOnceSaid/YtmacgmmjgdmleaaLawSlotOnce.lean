/-
  THE LAW 'raddle/raddlelaw18.SlotOnce': for every input the Go function returns true, and each argument reads as it did.
  Conditions: those of the given row, none of ours. (The frame is written by a program of this work, law.py, after the kit's proof-skeleton; the walk stands in YtmacgmmjgdmleaaWalkSlotOnce.)
-/
import Derived.Test.YtmacgmmjgdmleaaOpen
import Derived.SizedLaws
import Derived.Test.YtmacgmmjgdmleaaSlot4
import Derived.Maps.OwnSet
import Derived.DeepKeys4
import Derived.Deep.DeepCutAuto
import Derived.Deep.CutBlock
namespace Go.Proofs.Ytmacgmmjgdmleaa
open Go Go.RowKit
set_option linter.unusedSimpArgs false
set_option linter.unusedVariables false

/-- Each element reads as itself. -/
def asIs (v : Value) : Option (DataW Value × List MemPlace) := some (.held v, [])
/-- Block b is a map of c entries (at most n), key by key as f tells. -/
def MapR (P : Program) (k : TypeId) (w : World) (b n c : Nat) (f : Lit → Option Value) : Prop :=
  ∃ D : DataW Value, w.ownsMap P k asIs b n D ∧ Maps.size D = c ∧ ∀ l, WideAt.IsKeyLit l → Maps.has D l = (f l).isSome ∧ ∀ z, D.atKey l z = match f l with | some v => .held v | none => z

noncomputable def setF (f : Lit → Option Value) (kl : Lit) (v : Option Value) : Lit → Option Value := fun l => @ite _ (l = kl) (Classical.propDecidable _) v (f l)
theorem setF_same (f : Lit → Option Value) (kl : Lit) (v : Option Value) : setF f kl v kl = v := by
  unfold setF
  rw [if_pos rfl]
theorem setF_other (f : Lit → Option Value) {kl l : Lit} (v : Option Value) (h : l ≠ kl) : setF f kl v l = f l := by
  unfold setF
  rw [if_neg h]
section
variable {P : Program} {k t e : TypeId} {w w' : World} {b n c : Nat} {f : Lit → Option Value} {key val z : Value} {kl : Lit}
theorem MapR.made (w : World) (P : Program) (k : TypeId) : MapR P k (w.alloc (.map #[] 0)) w.heap.size 0 0 (fun _ => none) :=
  ⟨_, World.ownsMap_made w P k asIs, rfl, fun _ _ => ⟨rfl, fun _ => rfl⟩⟩
theorem MapR.lt (h : MapR P k w b n c f) : b < w.heap.size := by
  obtain ⟨D, h1, _⟩ := h
  exact h1.lt
theorem MapR.block (h : MapR P k w b n c f) : ∃ es clock, w.heap[b]? = some (.map es clock) := by
  obtain ⟨D, ⟨es, clock, hb, _⟩, _⟩ := h
  exact ⟨es, clock, hb⟩
theorem MapR.count (h : MapR P k w b n c f) : c ≤ n := by
  obtain ⟨D, h1, h2, _⟩ := h
  rw [← h2]
  exact h1.size_le
theorem MapR.keep {p : Nat → Prop} (h : MapR P k w b n c f) (g : Keep p w w') (hp : ¬ p b) : MapR P k w' b n c f := by
  obtain ⟨D, ⟨es, clock, hb, r⟩, r2⟩ := h
  exact ⟨D, ⟨es, clock, (g.block b (Array.getElem?_eq_some_iff.1 hb).1 hp).trans hb, r⟩, r2⟩
theorem MapR.same (h : MapR P k w b n c f) (g : Same w w') : MapR P k w' b n c f := h.keep (Keep.of_same (p := fun _ => False) g) id
theorem MapR.mono (h : MapR P k w b n c f) {m : Nat} (hm : n ≤ m) : MapR P k w b m c f := by
  obtain ⟨D, h1, r⟩ := h
  exact ⟨D, h1.mono hm, r⟩
theorem MapR.congr (h : MapR P k w b n c f) {c' : Nat} {g : Lit → Option Value} (hc : c = c') (hg : ∀ l, f l = g l) : MapR P k w b n c' g := by
  obtain rfl : f = g := funext hg
  rw [← hc]
  exact h
theorem MapR.look (h : MapR P k w b n c f) (K : Maps.Keyed P k) (ht : P.underlying t = some (.map k e)) (hz : (zeroValue e).run P w = .ok z w) (hkey : keyOf P k key = some kl) :
    (Instr.lookup t (.map (some b)) key false).run P w = .ok ((f kl).getD z) w := by
  obtain ⟨D, h1, _, h3⟩ := h
  obtain ⟨v, ps, hr, hv⟩ := h1.lookup (zd := .held z) (zp := []) K ht hz rfl hkey
  rw [hr, (h3 kl (K.key hkey)).2] at *
  cases hf : f kl <;> rw [hf] at hv <;> simp only [asIs, Option.some.injEq, Prod.mk.injEq, DataW.held.injEq] at hv <;> rw [hv.1] <;> rfl
theorem MapR.lookOk (h : MapR P k w b n c f) (K : Maps.Keyed P k) (ht : P.underlying t = some (.map k e)) (hz : (zeroValue e).run P w = .ok z w) (hkey : keyOf P k key = some kl) :
    (Instr.lookup t (.map (some b)) key true).run P w = .ok (.tuple #[(f kl).getD z, .bool (f kl).isSome]) w := by
  obtain ⟨D, h1, _, h3⟩ := h
  obtain ⟨v, ps, hr, hv⟩ := h1.look_ok (zd := .held z) (zp := []) K ht hz rfl hkey
  rw [hr, (h3 kl (K.key hkey)).1]
  rw [(h3 kl (K.key hkey)).2] at hv
  cases hf : f kl <;> rw [hf] at hv <;> simp only [asIs, Option.some.injEq, Prod.mk.injEq, DataW.held.injEq] at hv <;> rw [hv.1] <;> rfl
theorem keep_turned (h : w.mapTurned w' b) : Keep (· = b) w w' := (Keep.grown h.grown).mono (fun x _ hx => by simpa using hx.symm)
theorem MapR.put (h : MapR P k w b n c f) (K : Maps.Keyed P k) (ht : P.underlying t = some (.map k e)) (hn : n < maxLen) (hkey : keyOf P k key = some kl) :
    ∃ w', (Instr.mapUpdate t (.map (some b)) key val).run P w = .ok () w' ∧ MapR P k w' b (n + 1) (if (f kl).isSome then c else c + 1) (setF f kl (some val)) ∧ Keep (· = b) w w' := by
  obtain ⟨D, h1, h2, h3⟩ := h
  obtain ⟨w', hr, h4, h5⟩ := h1.store (val := val) (d := .held val) (ps := []) K ht hn hkey rfl
  have hk := K.key hkey
  refine ⟨w', hr, ⟨_, h4, ?_, fun l hl => ?_⟩, keep_turned h5⟩
  · rw [Maps.size_put (h1.tidy K), (h3 kl hk).1, h2]
  · by_cases e : l = kl
    · subst e
      rw [setF_same]
      exact ⟨Maps.has_put_same h1.isMap hl _, fun z => Maps.atKey_put_same h1.isMap hl _ z⟩
    · rw [setF_other _ _ e, Maps.has_put_other e, (h3 l hl).1]
      exact ⟨rfl, fun z => by rw [Maps.atKey_put_other e]; exact (h3 l hl).2 z⟩
theorem MapR.drop (h : MapR P k w b n c f) (K : Maps.Keyed P k) (ht : P.underlying t = some (.map k e)) (hkey : keyOf P k key = some kl) (ty : TypeId) :
    ∃ w', (Builtin.delete_ #[t, k] ty #[.map (some b), key]).run P w = .ok (.tuple #[]) w' ∧ MapR P k w' b n (if (f kl).isSome then c - 1 else c) (setF f kl none) ∧ Keep (· = b) w w' := by
  obtain ⟨D, h1, h2, h3⟩ := h
  obtain ⟨w', hr, h4, h5⟩ := h1.drop K ht hkey ty
  have hk := K.key hkey
  refine ⟨w', hr, ⟨_, h4, ?_, fun l hl => ?_⟩, keep_turned h5⟩
  · have := Maps.size_del (k := kl) (h1.tidy K)
    rw [(h3 kl hk).1, h2] at this
    split at this <;> rename_i hi <;> simp only [hi, if_true, if_false, Bool.false_eq_true] <;> omega
  · by_cases e : l = kl
    · subst e
      rw [setF_same]
      exact ⟨Maps.has_del_same, fun z => Maps.atKey_del_same z⟩
    · rw [setF_other _ _ e, Maps.has_del_other e, (h3 l hl).1]
      exact ⟨rfl, fun z => by rw [Maps.atKey_del_other e]; exact (h3 l hl).2 z⟩
theorem MapR.len (h : MapR P k w b n c f) (ht : P.underlying t = some (.map k e)) (ty : TypeId) : (Builtin.len_ #[t] ty #[.map (some b)]).run P w = .ok (.int .i64 c) w := by
  obtain ⟨D, h1, h2, _⟩ := h
  rw [← h2]
  exact h1.len ht ty
end

section
variable {P : Program} {ops : Array Oper} {rest : List Oper} {o : Oper} {a : Act} {Q : Exit → Act → World → Prop} {w : World} {t k e : TypeId} {b n c : Nat} {f : Lit → Option Value} {key val z : Value} {kl : Lit}
/-- 'make(map[K]V)'. -/
theorem map_make (hg : Region.wanted o (yielded ops a.tmps) = true) (ho : o.op = .makeMap t none)
    (h : ∀ w', MapR P k w' w.heap.size 0 0 (fun _ => none) → Same w w' → w'.heap.size = w.heap.size + 1 → wpList P ops Q rest (a.put o.dst (.map (some w.heap.size))) w') : wpList P ops Q (o :: rest) a w := by
  refine wpL hg fun K hK => ?_
  unfold Oper.wp execOp
  simp only [ho, Option.map_none, Sem.run_bind, Sem.run_pure, Result.andThen_ok, run_makeMap]
  exact hK _ _ (h _ (MapR.made w P k) (Same.refl.alloc _) (by simp))
/-- 'm[k]'. -/
theorem map_look (hg : Region.wanted o (yielded ops a.tmps) = true) (m x : Operand) (ho : o.op = .lookup t m x false) (K : Maps.Keyed P k) (ht : P.underlying t = some (.map k e)) (hz : (zeroValue e).run P w = .ok z w)
    (hm : a.eval m = .map (some b)) (hM : MapR P k w b n c f) (hx : a.eval x = key) (hkey : keyOf P k key = some kl)
    (h : wpList P ops Q rest (a.put o.dst ((f kl).getD z)) w) : wpList P ops Q (o :: rest) a w := by
  refine wpL hg fun K' hK => ?_
  unfold Oper.wp execOp
  simp only [ho, hm, hx, Sem.run_bind, Sem.run_pure, Result.andThen_ok, hM.look K ht hz hkey]
  exact hK _ _ h
/-- 'v, ok := m[k]'. -/
theorem map_lookOk (hg : Region.wanted o (yielded ops a.tmps) = true) (m x : Operand) (ho : o.op = .lookup t m x true) (K : Maps.Keyed P k) (ht : P.underlying t = some (.map k e)) (hz : (zeroValue e).run P w = .ok z w)
    (hm : a.eval m = .map (some b)) (hM : MapR P k w b n c f) (hx : a.eval x = key) (hkey : keyOf P k key = some kl)
    (h : wpList P ops Q rest (a.put o.dst (.tuple #[(f kl).getD z, .bool (f kl).isSome])) w) : wpList P ops Q (o :: rest) a w := by
  refine wpL hg fun K' hK => ?_
  unfold Oper.wp execOp
  simp only [ho, hm, hx, Sem.run_bind, Sem.run_pure, Result.andThen_ok, hM.lookOk K ht hz hkey]
  exact hK _ _ h
/-- 'm[k] = v'. -/
theorem map_put (hg : Region.wanted o (yielded ops a.tmps) = true) (m x v : Operand) (ho : o.op = .mapUpdate t m x v) (K : Maps.Keyed P k) (ht : P.underlying t = some (.map k e))
    (hm : a.eval m = .map (some b)) (hM : MapR P k w b n c f) (hn : n < maxLen) (hx : a.eval x = key) (hv : a.eval v = val) (hkey : keyOf P k key = some kl)
    (h : ∀ w', MapR P k w' b (n + 1) (if (f kl).isSome then c else c + 1) (setF f kl (some val)) → Keep (· = b) w w' → wpList P ops Q rest (a.put o.dst undef) w') : wpList P ops Q (o :: rest) a w := by
  obtain ⟨w', hr, h1, h2⟩ := hM.put (val := val) K ht hn hkey
  refine wpL hg fun K' hK => ?_
  unfold Oper.wp execOp
  simp only [ho, hm, hx, hv, Sem.run_bind, Sem.run_pure, Result.andThen_ok, hr]
  exact hK _ _ (h w' h1 h2)
/-- 'delete(m, k)'. -/
theorem map_drop (hg : Region.wanted o (yielded ops a.tmps) = true) (m x : Operand) (ho : o.op = .call { callee := .builtin .delete, args := #[m, x], argTypes := #[t, k] }) (K : Maps.Keyed P k) (ht : P.underlying t = some (.map k e))
    (hm : a.eval m = .map (some b)) (hM : MapR P k w b n c f) (hx : a.eval x = key) (hkey : keyOf P k key = some kl)
    (h : ∀ w', MapR P k w' b n (if (f kl).isSome then c - 1 else c) (setF f kl none) → Keep (· = b) w w' → wpList P ops Q rest (a.put o.dst (.tuple #[])) w') : wpList P ops Q (o :: rest) a w := by
  obtain ⟨w', hr, h1, h2⟩ := hM.drop K ht hkey o.type
  refine wpL hg fun K' hK => ?_
  unfold Oper.wp execOp
  simp only [ho, resolve, invoke, builtin, hm, hx, List.map_toArray, List.map_cons, List.map_nil, Sem.run_bind, Sem.run_pure, Result.andThen_ok, hr]
  exact hK _ _ (h w' h1 h2)
/-- 'len(m)'. -/
theorem map_len (hg : Region.wanted o (yielded ops a.tmps) = true) (m : Operand) (ho : o.op = .call { callee := .builtin .len, args := #[m], argTypes := #[t] }) (ht : P.underlying t = some (.map k e))
    (hm : a.eval m = .map (some b)) (hM : MapR P k w b n c f)
    (h : wpList P ops Q rest (a.put o.dst (.int .i64 c)) w) : wpList P ops Q (o :: rest) a w := by
  refine wpL hg fun K' hK => ?_
  unfold Oper.wp execOp
  simp only [ho, resolve, invoke, builtin, hm, List.map_toArray, List.map_cons, List.map_nil, Sem.run_bind, Sem.run_pure, Result.andThen_ok, hM.len ht o.type]
  exact hK _ _ h
end
end Go.Proofs.Ytmacgmmjgdmleaa
namespace Go.Proofs.Ytmacgmmjgdmleaa
open Go Go.RowKit
set_option linter.unusedSimpArgs false
set_option linter.unusedVariables false

def hopsS (P : Program) (ops : Array Oper) (Q : Exit → Act → World → Prop) (a : Act) (ds : List (Nat × Nat)) (rel : World → World → Prop) (I : World → Prop) (R : Nat → Value → World → Prop) : Nat → List (List Nat) → List Oper → Prop
  | _, _, [] => True
  | i, A, o :: l => (∀ u w, I w → onAll R u w (A.headD []) → wpList P ops (StQ Q a ds rel R u i w) [o] (mkAct a ds u) w) ∧ hopsS P ops Q a ds rel I R (i + 1) A.tail l
def seqOk : Nat → List (List Nat) → List Oper → Bool
  | _, _, [] => true
  | i, A, _ :: l => (A.headD []).all (fun k => Nat.blt k i) && seqOk (i + 1) A.tail l
section
variable {P : Program} {ops : Array Oper} {Q : Exit → Act → World → Prop} {a : Act} {ds : List (Nat × Nat)} {rel : World → World → Prop} {I : World → Prop} {R : Nat → Value → World → Prop}
theorem wpList_then {o : Oper} {rest : List Oper} {Q' : Exit → Act → World → Prop} {a : Act} {w : World} (h : wpList P ops Q' [o] a w) (hn : ∀ a w, Q' .normal a w → wpList P ops Q rest a w) (hq : ∀ e a w, e ≠ .normal → Q' e a w → Q e a w) : wpList P ops Q (o :: rest) a w := by
  unfold wpList at h ⊢
  have hout : LetsOut Q' → LetsOut Q := fun ⟨a, w, h⟩ => ⟨a, w, hq _ _ _ (by simp) h⟩
  by_cases hw : Region.wanted o (yielded ops a.tmps) = true
  · simp only [hw, if_true] at h ⊢
    rcases h with h | ⟨h1, h2⟩
    · refine .inl ?_
      unfold Oper.wp at h ⊢
      generalize (execOp a.eval o).run P w = r at *
      cases r with
      | ok n w' =>
        cases n <;> simp only [Oper.upon] at h ⊢ <;>
          first
            | exact hn _ _ h
            | exact Calls.mono h (fun e w'' he => by cases e <;> first | exact hn _ _ he | exact hq _ _ _ (by simp) he | exact hout he)
            | exact Rows.mono h (fun _ _ he => hn _ _ he)
      | halt x w' => cases x <;> simp only [Oper.upon] at h ⊢ <;> exact hq _ _ _ (by simp) h
    · exact .inr ⟨h1, hout h2⟩
  · simp only [hw, if_false, Bool.false_eq_true] at h ⊢
    exact hn _ _ h
theorem wp_seq (hR : ∀ i v w w', rel w w' → R i v w → R i v w') (hrel : ∀ w w', I w → rel w w' → I w') : ∀ (l : List Oper) (i : Nat) (A : List (List Nat)) (u : Nat → Value) (w : World), seqOk i A l = true → (∀ k, k < i → R k (u k) w) → I w → hopsS P ops Q a ds rel I R i A l →
    (∀ u w, I w → (∀ k, k < i + l.length → R k (u k) w) → Q .normal (mkAct a ds u) w) → wpList P ops Q l (mkAct a ds u) w := by
  intro l
  induction l with
  | nil => intro i A u w _ hf hI _ hend; exact hend u w hI hf
  | cons o l ih =>
    intro i A u w hok hf hI hop hend
    simp only [seqOk, Bool.and_eq_true, List.all_eq_true] at hok
    refine wpList_then (hop.1 u w hI (onAll_of _ fun k hk => hf k (Nat.le_of_ble_eq_true (hok.1 k hk)))) ?_ ?_
    · rintro a' w' ⟨v, rfl, hv, hr⟩
      refine ih (i + 1) A.tail (upd u i v) w' hok.2 ?_ (hrel _ _ hI hr) hop.2 ?_
      · intro k hk
        by_cases e : k = i
        · subst e
          rw [upd_same]
          exact hv
        · rw [upd_other _ _ e]
          exact hR _ _ _ _ hr (hf k (by omega))
      · intro u w hI hf
        exact hend u w hI (fun k hk => hf k (by simp only [List.length_cons] at hk; omega))
    · intro e a' w' he h
      cases e <;> first | exact absurd rfl he | exact h
theorem wp_region_seq {id : Nat} {w : World} (ds : List (Nat × Nat)) (A : List (List Nat)) (rel : World → World → Prop) (I : World → Prop) (L : List (Value → World → Prop)) (hI : I w) (hrel : ∀ w w', I w → rel w w' → I w') (hL : ∀ p ∈ L, Stable rel p) (hnd : (ds.map Prod.snd).Nodup)
    {l : List Oper} (hl : ops.toList = l) (hA : seqOk 0 A l = true) (hop : hopsS P ops Q a ds rel I (factAt L) 0 A l) (hend : ∀ u w, I w → allR (factAt L) u w 0 l.length → wpList P ops Q [] (mkAct a ds u) w) : (Code.region id ops false).wp P Q a w := by
  refine wp_region_list ?_
  rw [hl, mkAct_own a ds hnd]
  have key := wp_seq (P := P) (ops := ops) (Q := Q) (a := a) (ds := ds) (facts_stable hL) hrel l 0 A (ownU a ds) w hA (fun k hk => by omega) hI
  rw [← mkAct_own a ds hnd] at key ⊢
  refine key hop ?_
  intro u w hI hf
  exact hend u w hI (allR_of _ _ fun j h1 h2 => hf j h2)
end
/-- What an operation leaves; the frame as M tells. -/
def StM (Q : Exit → Act → World → Prop) (M : (Nat → Value) → Act) (rel : World → World → Prop) (R : Nat → Value → World → Prop) (u : Nat → Value) (i : Nat) (w : World) : Exit → Act → World → Prop
  | .normal, a', w' => ∃ v, a' = M (upd u i v) ∧ R i v w' ∧ rel w w'
  | e, a', w' => Q e a' w'
def hopsM (P : Program) (ops : Array Oper) (Q : Exit → Act → World → Prop) (M : (Nat → Value) → Act) (rel : World → World → Prop) (I : World → Prop) (R : Nat → Value → World → Prop) : Nat → List Oper → Prop
  | _, [] => True
  | i, o :: l => (∀ u w, I w → preds R u w o.after.toList → wpList P ops (StM Q M rel R u i w) [o] (M u) w) ∧ hopsM P ops Q M rel I R (i + 1) l
section
variable {P : Program} {ops : Array Oper} {Q : Exit → Act → World → Prop} {a : Act} {ds : List (Nat × Nat)} {rel : World → World → Prop} {I : World → Prop} {R : Nat → Value → World → Prop}
theorem hops_of : ∀ (l : List Oper) (i : Nat), hopsM P ops Q (mkAct a ds) rel I R i l → hops P ops Q a ds rel I R i l := by
  intro l
  induction l with
  | nil => intro i _; trivial
  | cons o l ih =>
    intro i h
    refine ⟨fun u w hI hp => ?_, ih _ h.2⟩
    have e : StM Q (mkAct a ds) rel R u i w = StQ Q a ds rel R u i w := by funext e; cases e <;> rfl
    rw [← e]
    exact h.1 u w hI hp
/-- Many operations: the frame is told once, and hidden. -/
theorem wp_region_lastM {id : Nat} {w : World} (hm : P.follows .mixedOrders = true) (ds : List (Nat × Nat)) (rel : World → World → Prop) (I : World → Prop) (L : List (Value → World → Prop))
    (hI : I w.drew) (hrel : ∀ w w', I w → rel w w' → I w') (hL : ∀ p ∈ L, Stable rel p) (hnd : (ds.map Prod.snd).Nodup) {l : List Oper} {o : Oper} (hl : ops.toList = l ++ [o]) (hord : ordOk ops = true) (hlast : lastOk l.length o = true)
    {E : (Nat → Value) → Act} (hE : ∀ u, mkAct a ds u = E u)
    (hop : ∀ M : (Nat → Value) → Act, (∀ u, M u = E u) → hopsM P ops Q M rel I (factAt L) 0 l)
    (hend : ∀ M : (Nat → Value) → Act, (∀ u, M u = E u) → ∀ u w, I w → allR (factAt L) u w 0 l.length → wpList P ops Q [o] (M u) w) : (Code.region id ops true).wp P Q a w :=
  wp_region_last hm ds rel I L hI hrel hL hnd hl hord hlast (hops_of _ _ (hop _ hE)) (hend _ hE)
def hopsSM (P : Program) (ops : Array Oper) (Q : Exit → Act → World → Prop) (M : (Nat → Value) → Act) (rel : World → World → Prop) (I : World → Prop) (R : Nat → Value → World → Prop) : Nat → List (List Nat) → List Oper → Prop
  | _, _, [] => True
  | i, A, o :: l => (∀ u w, I w → onAll R u w (A.headD []) → wpList P ops (StM Q M rel R u i w) [o] (M u) w) ∧ hopsSM P ops Q M rel I R (i + 1) A.tail l
theorem hopsS_of : ∀ (l : List Oper) (A : List (List Nat)) (i : Nat), hopsSM P ops Q (mkAct a ds) rel I R i A l → hopsS P ops Q a ds rel I R i A l := by
  intro l
  induction l with
  | nil => intro A i _; trivial
  | cons o l ih =>
    intro A i h
    refine ⟨fun u w hI hp => ?_, ih _ _ h.2⟩
    have e : StM Q (mkAct a ds) rel R u i w = StQ Q a ds rel R u i w := by funext e; cases e <;> rfl
    rw [← e]
    exact h.1 u w hI hp
/-- A region that does not draw; the frame is told once, and hidden. -/
theorem wp_region_seqM {id : Nat} {w : World} (ds : List (Nat × Nat)) (A : List (List Nat)) (rel : World → World → Prop) (I : World → Prop) (L : List (Value → World → Prop)) (hI : I w) (hrel : ∀ w w', I w → rel w w' → I w') (hL : ∀ p ∈ L, Stable rel p) (hnd : (ds.map Prod.snd).Nodup)
    {l : List Oper} (hl : ops.toList = l) (hA : seqOk 0 A l = true) {E : (Nat → Value) → Act} (hE : ∀ u, mkAct a ds u = E u)
    (hop : ∀ M : (Nat → Value) → Act, (∀ u, M u = E u) → hopsSM P ops Q M rel I (factAt L) 0 A l)
    (hend : ∀ M : (Nat → Value) → Act, (∀ u, M u = E u) → ∀ u w, I w → allR (factAt L) u w 0 l.length → wpList P ops Q [] (M u) w) : (Code.region id ops false).wp P Q a w :=
  wp_region_seq ds A rel I L hI hrel hL hnd hl hA (hopsS_of _ _ _ (hop _ hE)) (hend _ hE)
/-- A region that draws, in any order; the frame is told once, and hidden. -/
theorem wp_region_factsM {id : Nat} {w : World} (hm : P.follows .mixedOrders = true) (ds : List (Nat × Nat)) (rel : World → World → Prop) (I : World → Prop) (L : List (Value → World → Prop))
    (hI : I w.drew) (hrel : ∀ w w', I w → rel w w' → I w') (hL : ∀ p ∈ L, Stable rel p) (hnd : (ds.map Prod.snd).Nodup) (hord : ordOk ops = true)
    {E : (Nat → Value) → Act} (hE : ∀ u, mkAct a ds u = E u)
    (hop : ∀ M : (Nat → Value) → Act, (∀ u, M u = E u) → hopsM P ops Q M rel I (factAt L) 0 ops.toList)
    (hend : ∀ M : (Nat → Value) → Act, (∀ u, M u = E u) → ∀ u w, I w → allR (factAt L) u w 0 ops.size → Q .normal (M u) w) : (Code.region id ops true).wp P Q a w :=
  wp_region_facts hm ds rel I L hI hrel hL hnd hord (hops_of _ _ (hop _ hE)) (hend _ hE)
theorem wpList_act {M E : (Nat → Value) → Act} (h : ∀ u, M u = E u) {l : List Oper} {u : Nat → Value} {w : World} (k : wpList P ops Q l (E u) w) : wpList P ops Q l (M u) w := by
  rw [h]
  exact k
theorem stm_v {M : (Nat → Value) → Act} {L : List (Value → World → Prop)} {u : Nat → Value} {i : Nat} {w w' : World} {a' : Act} {x : Value} (hx : factAt L i = isV x) (hr : rel w w') (ha : a' = M (upd u i x)) : StM Q M rel (factAt L) u i w .normal a' w' :=
  ⟨x, ha, by rw [hx]; rfl, hr⟩
theorem stm_x {M : (Nat → Value) → Act} {L : List (Value → World → Prop)} {u : Nat → Value} {i : Nat} {w w' : World} {a' : Act} (x : Value) {p : Value → World → Prop} (hx : factAt L i = p) (hp : p x w') (hr : rel w w') (ha : a' = M (upd u i x)) : StM Q M rel (factAt L) u i w .normal a' w' :=
  ⟨x, ha, by rw [hx]; exact hp, hr⟩
end
end Go.Proofs.Ytmacgmmjgdmleaa
namespace Go.Proofs.Ytmacgmmjgdmleaa
open Go Go.RowKit
set_option linter.unusedSimpArgs false
set_option linter.unusedVariables false

/-- What was met in each view. -/
abbrev MetV := Int → Option (List UInt8)
def MetV.with (m : MetV) (v : Int) (d : List UInt8) : MetV := fun x => if x = v then some d else m x
def OnceInv (s : SlotV) (m : MetV) : Prop :=
  (s.is = true → m s.view = some (bDig s.bat)) ∧ (∀ v d, m v = some d → s.is = true ∧ v ≤ s.view) ∧
  (s.holds = true → m s.hcert.vote.view = some s.hcert.vote.dig) ∧ (s.decided = true → s.ecert.vote.dig = bDig s.ebat)
def MetV.next (m : MetV) (x : SlotV) : MetV := if x.is = true then m.with x.view (bDig x.bat) else m
/-- A step that was taken. -/
def OnceStep (s x : SlotV) (m : MetV) : Prop :=
  (s.is = true → x.is = true ∧ s.view ≤ x.view) ∧ (s.holds = true → x.holds = true ∧ s.hcert.vote.view ≤ x.hcert.vote.view) ∧
  (s.decided = true → x.decided = true ∧ x.eslot = s.eslot ∧ x.ebat = s.ebat ∧ x.ecert = s.ecert) ∧
  (x.is = true → m x.view = none ∨ m x.view = some (bDig x.bat)) ∧ OnceInv x (m.next x)
theorem once_start : OnceInv zeroSlot (fun _ => none) := ⟨(fun h => by cases h), (fun v d h => by cases h), (fun h => by cases h), (fun h => by cases h)⟩
theorem next_same {s : SlotV} {m : MetV} (h : OnceInv s m) : m.next s = m := by
  unfold MetV.next
  split
  · rename_i hi
    funext v
    unfold MetV.with
    split
    · rename_i e
      rw [e, h.1 hi]
    · rfl
  · rfl
theorem once_self {s : SlotV} {m : MetV} (h : OnceInv s m) : OnceStep s s m :=
  ⟨fun hi => ⟨hi, Int.le_refl _⟩, fun hi => ⟨hi, Int.le_refl _⟩, fun hi => ⟨hi, rfl, rfl, rfl⟩, fun hi => .inr (h.1 hi), by rw [next_same h]; exact h⟩
theorem once_accept {s x : SlotV} {m : MetV} {v : Int} {b : BatV} (h : OnceInv s m) (e : s.accept v b = (x, 0)) : OnceStep s x m := by
  unfold SlotV.accept at e
  split at e
  · simp at e
  · rename_i h1
    split at e
    · split at e
      · obtain ⟨rfl, -⟩ := Prod.mk.inj e
        exact once_self h
      · simp at e
    · rename_i h2
      obtain ⟨rfl, -⟩ := Prod.mk.inj e
      have hlt : ∀ u d, m u = some d → u < v := by
        intro u d hu
        obtain ⟨h3, h4⟩ := h.2.1 u d hu
        rw [not_or] at h1
        have h5 : ¬ v < s.view := fun h6 => h1.2 ⟨h3, h6⟩
        have h6 : ¬ s.view = v := fun h7 => h2 ⟨h3, h7⟩
        omega
      have hne : ∀ u d, m u = some d → u ≠ v := fun u d hu => by have := hlt u d hu; omega
      refine ⟨?_, fun hi => ⟨hi, Int.le_refl _⟩, fun hi => ⟨hi, rfl, rfl, rfl⟩, ?_, ?_, ?_, ?_, h.2.2.2⟩
      · intro hi
        refine ⟨rfl, ?_⟩
        have := hlt _ _ (h.1 hi)
        show s.view ≤ v
        omega
      · intro _
        left
        show m v = none
        cases hm : m v with
        | none => rfl
        | some d => exact absurd rfl (hne v d hm)
      · intro _
        simp [MetV.next, MetV.with]
      · intro u d hu
        refine ⟨rfl, ?_⟩
        show u ≤ v
        simp only [MetV.next, MetV.with, if_true] at hu
        split at hu
        · omega
        · have := hlt u d hu
          omega
      · intro hi
        have := h.2.2.1 hi
        simp only [MetV.next, MetV.with, if_true]
        rw [if_neg (hne _ _ this)]
        exact this
theorem once_hold {s x : SlotV} {m : MetV} {c : CertV} (h : OnceInv s m) (e : s.hold c = (x, 0)) : OnceStep s x m := by
  unfold SlotV.hold at e
  split at e
  · simp at e
  · split at e
    · simp at e
    · rename_i h2
      split at e
      · simp at e
      · rename_i h3
        split at e
        · obtain ⟨rfl, -⟩ := Prod.mk.inj e
          exact once_self h
        · rename_i h4
          obtain ⟨rfl, -⟩ := Prod.mk.inj e
          have h2' : s.is = true ∧ s.view = c.vote.view := Decidable.not_not.1 h2
          have h3' : c.vote.dig = bDig s.bat := Decidable.not_not.1 h3
          have hm : MetV.next m { s with holds := true, hbat := s.bat, hcert := c } = m := by
            have := next_same h
            exact this
          refine ⟨fun hi => ⟨hi, Int.le_refl _⟩, fun hi => ⟨rfl, ?_⟩, fun hi => ⟨hi, rfl, rfl, rfl⟩, fun hi => .inr (h.1 hi), ?_⟩
          · show s.hcert.vote.view ≤ c.vote.view
            by_cases h5 : c.vote.view ≤ s.hcert.vote.view
            · exact absurd ⟨hi, h5⟩ h4
            · omega
          · rw [hm]
            refine ⟨h.1, h.2.1, fun _ => ?_, h.2.2.2⟩
            show m c.vote.view = some c.vote.dig
            rw [← h2'.2, h3', h.1 h2'.1]
theorem once_decide {s x : SlotV} {m : MetV} {b : BatV} {c : CertV} (h : OnceInv s m) (e : s.decide b c = (x, 0)) : OnceStep s x m := by
  unfold SlotV.decide at e
  split at e
  · simp at e
  · rename_i h1
    split at e
    · split at e
      · obtain ⟨rfl, -⟩ := Prod.mk.inj e
        exact once_self h
      · simp at e
    · rename_i h2
      obtain ⟨rfl, -⟩ := Prod.mk.inj e
      have h3 : c.vote.dig = bDig b := by
        rw [not_or] at h1
        exact Decidable.not_not.1 h1.2
      have hm : MetV.next m { s with decided := true, eslot := c.vote.slot, ebat := b, ecert := c } = m := by
        have := next_same h
        exact this
      refine ⟨fun hi => ⟨hi, Int.le_refl _⟩, fun hi => ⟨hi, Int.le_refl _⟩, fun hi => absurd hi h2, fun hi => .inr (h.1 hi), ?_⟩
      rw [hm]
      exact ⟨h.1, h.2.1, h.2.2.1, fun _ => h3⟩
/-- What was refused is the zero slot. -/
theorem accept_bad {s x : SlotV} {v : Int} {b : BatV} {n : Nat} (e : s.accept v b = (x, n)) (hn : n ≠ 0) : x = zeroSlot := by
  unfold SlotV.accept at e
  repeat' split at e
  all_goals obtain ⟨rfl, rfl⟩ := Prod.mk.inj e
  all_goals first | rfl | exact absurd rfl hn
theorem hold_bad {s x : SlotV} {c : CertV} {n : Nat} (e : s.hold c = (x, n)) (hn : n ≠ 0) : x = zeroSlot := by
  unfold SlotV.hold at e
  repeat' split at e
  all_goals obtain ⟨rfl, rfl⟩ := Prod.mk.inj e
  all_goals first | rfl | exact absurd rfl hn
theorem decide_bad {s x : SlotV} {b : BatV} {c : CertV} {n : Nat} (e : s.decide b c = (x, n)) (hn : n ≠ 0) : x = zeroSlot := by
  unfold SlotV.decide at e
  repeat' split at e
  all_goals obtain ⟨rfl, rfl⟩ := Prod.mk.inj e
  all_goals first | rfl | exact absurd rfl hn
/-- All parts of a slot are of those that fit. -/
def SlotV.fits (p : BatV → Prop) (q : CertV → Prop) (r : Int → Prop) (s : SlotV) : Prop := p s.bat ∧ p s.hbat ∧ p s.ebat ∧ q s.hcert ∧ q s.ecert ∧ r s.view ∧ r s.eslot
section
variable {p : BatV → Prop} {q : CertV → Prop} {r : Int → Prop} {s x : SlotV} {n : Nat}
theorem fits_accept {v : Int} {b : BatV} (h : s.fits p q r) (hz : zeroSlot.fits p q r) (hb : p b) (hv : r v) (e : s.accept v b = (x, n)) : x.fits p q r := by
  unfold SlotV.accept at e
  repeat' split at e
  all_goals obtain ⟨rfl, rfl⟩ := Prod.mk.inj e
  all_goals first | exact h | exact hz | exact ⟨hb, h.2.1, h.2.2.1, h.2.2.2.1, h.2.2.2.2.1, hv, h.2.2.2.2.2.2⟩
theorem fits_hold {c : CertV} (h : s.fits p q r) (hz : zeroSlot.fits p q r) (hc : q c) (e : s.hold c = (x, n)) : x.fits p q r := by
  unfold SlotV.hold at e
  repeat' split at e
  all_goals obtain ⟨rfl, rfl⟩ := Prod.mk.inj e
  all_goals first | exact h | exact hz | exact ⟨h.1, h.1, h.2.2.1, hc, h.2.2.2.2⟩
theorem fits_decide {b : BatV} {c : CertV} (h : s.fits p q r) (hz : zeroSlot.fits p q r) (hb : p b) (hc : q c) (hs : r c.vote.slot) (e : s.decide b c = (x, n)) : x.fits p q r := by
  unfold SlotV.decide at e
  repeat' split at e
  all_goals obtain ⟨rfl, rfl⟩ := Prod.mk.inj e
  all_goals first | exact h | exact hz | exact ⟨h.1, h.2.1, hb, h.2.2.2.1, hc, h.2.2.2.2.2.1, hs⟩
end
theorem fits_at {w : World} {s : SlotV} (h : s.fits (fun b => b.at w ∧ b.small) (fun c => c.at w) (fun x => (Lit.int .i64 x).wf = true)) : s.at w ∧ s.bat.small ∧ s.hbat.small ∧ s.ebat.small :=
  ⟨⟨h.2.2.2.2.2.1, h.2.2.2.2.2.2, h.1.1, h.2.1.1, h.2.2.2.1, h.2.2.1.1, h.2.2.2.2.1⟩, h.1.2, h.2.1.2, h.2.2.1.2⟩
end Go.Proofs.Ytmacgmmjgdmleaa
namespace Go.Proofs.Ytmacgmmjgdmleaa
open Go Go.ChangeShapes Go.WideShapes Go.ChangeAt Go.RowKit
set_option linter.unusedSimpArgs false
set_option linter.unusedVariables false

set_option maxRecDepth 100000
/-- An act. -/
structure ActV where
  kind : Int
  view : Int
  bat : BatV
  cert : CertV
def ActV.cells (a : ActV) : List Value := [.int .i64 a.kind, .int .i64 a.view] ++ (a.bat.cells ++ a.cert.cells)
def ActV.at (w : World) (a : ActV) : Prop := (Lit.int .i64 a.kind).wf = true ∧ (Lit.int .i64 a.view).wf = true ∧ a.bat.at w ∧ a.cert.at w
def zeroAct : ActV := ⟨0, 0, zeroBat, zeroCert⟩
theorem ActV.len {a : ActV} (h : a.cert.vote.wf) : a.cells.length = 41 := by rw [ActV.cells, List.length_append, List.length_append, CertV.len h]; rfl
theorem act_oneL (a : ActV) : ∀ u ∈ a.cells, u.oneCell' = true := by
  intro u hu
  rcases List.mem_append.1 hu with h | h
  · simp only [List.mem_cons, List.not_mem_nil, or_false] at h
    rcases h with rfl | rfl <;> rfl
  · rcases List.mem_append.1 h with h | h
    · exact bat_oneL _ u h
    · exact cert_oneL _ u h
def acv (l : List ActV) : List Value := (l.map ActV.cells).flatten
def actAt (l : List ActV) (i : Nat) : ActV := l.getD i zeroAct
theorem actAt_mem {l : List ActV} {i : Nat} (h : i < l.length) : actAt l i ∈ l := by
  unfold actAt
  simp only [List.getD, List.getElem?_eq_getElem h, Option.getD_some]
  exact List.getElem_mem _
theorem actAt_get {l : List ActV} {i : Nat} (h : i < l.length) : l[i]? = some (actAt l i) := by
  unfold actAt
  simp only [List.getD, List.getElem?_eq_getElem h, Option.getD_some]
theorem act_range {w : World} {ao : Option Addr} {n c : Nat} {l : List ActV} (h : Sl w 41 ao n c (acv l)) (hn : l.length = n) (hw : ∀ s ∈ l, s.cert.vote.wf) {i : Nat} (hi : i < n) : ∃ bk off, ao = some ⟨bk, off, none⟩ ∧ w.rangeAt bk (off + i * 41) (actAt l i).cells := by
  have hne : acv l ≠ [] := by
    intro h2
    have := h.len
    rw [h2] at this
    simp at this
    omega
  obtain ⟨bk, off, ha, hb, hc⟩ := h.at hne
  refine ⟨bk, off, ha, ?_⟩
  intro j v hj
  rw [Nat.add_assoc]
  exact hc _ _ (flat_at' (f := ActV.cells) (sz := 41) l (fun r hr => ActV.len (hw r hr)) i _ (actAt_get (by rw [hn]; exact hi)) j v hj)
theorem act_infoL {a : ActV} (h : a.cert.vote.wf) : (Try.prog.info? 35).map (·.size) = some a.cells.length := by rw [ActV.len h]; kernel_rfl
theorem act_info {a : ActV} (h : a.cert.vote.wf) : (Try.prog.info? 35).map (·.size) = some a.cells.toArray.size := by rw [List.size_toArray]; exact act_infoL h
section
variable {w : World} {b T : Nat} {a : ActV} (h : w.heap[b]? = some (.cells a.cells.toArray T (0, 0)))
include h
theorem ac_kind : w.cell? ⟨b, 0, none⟩ = some (.int .i64 a.kind) := by rw [blk_cell h]; rfl
theorem ac_view : w.cell? ⟨b, 1, none⟩ = some (.int .i64 a.view) := by rw [blk_cell h]; rfl
theorem ac_bat : w.rangeAt b 2 a.bat.cells := part_range (pre := [.int .i64 a.kind, .int .i64 a.view]) h rfl
theorem ac_cert : w.rangeAt b 4 a.cert.cells := part_range (post := []) (pre := [.int .i64 a.kind, .int .i64 a.view] ++ a.bat.cells) (by simpa only [ActV.cells, List.append_assoc, List.append_nil] using h) rfl
theorem ac_signs (hw : a.cert.vote.wf) : w.cell? ⟨b, 40, none⟩ = some (.slice a.cert.so a.cert.signs.length a.cert.sc) := ac_cert h 36 (.slice a.cert.so a.cert.signs.length a.cert.sc) (by rw [CertV.cells, List.getElem?_append_right (by rw [VoteV.len hw]; exact Nat.le_refl _), VoteV.len hw]; rfl)
end
theorem rd_sact {H : Type} {enc : TypeId × Value → H} {W : World} {cs : List Value} (h : Rd enc W 35 cs) : ∃ a : ActV, cs = a.cells ∧ a.at W := by
  have hl := (h.struct Try.underlying35).1
  rw [(by kernel_rfl : Try.prog.cellsOf 35 = 41)] at hl
  obtain ⟨v, hv, wv⟩ := (h.field Try.underlying35 0 _ rfl 0 1 rfl (by kernel_rfl)).int Try.underlying3
  obtain ⟨u, hu, wu⟩ := (h.field Try.underlying35 1 _ rfl 1 1 rfl (by kernel_rfl)).int Try.underlying3
  obtain ⟨b, hb, wb⟩ := rd_bat (h.field Try.underlying35 2 _ rfl 2 2 rfl (by kernel_rfl))
  obtain ⟨c, hc, wc⟩ := rd_cert (h.field Try.underlying35 3 _ rfl 4 37 rfl (by kernel_rfl))
  refine ⟨⟨v, u, b, c⟩, ?_, wv, wu, wb, wc⟩
  have cut : ∀ (n m : Nat), (cs.drop n).take m ++ cs.drop (n + m) = cs.drop n := by
    intro n m
    have := List.take_append_drop m (cs.drop n)
    rw [List.drop_drop] at this
    exact this
  have e6 : (cs.drop 4).take 37 = cs.drop 4 := List.take_of_length_le (by rw [List.length_drop, hl]; decide)
  show cs = [Value.int .i64 v] ++ ([Value.int .i64 u] ++ (b.cells ++ c.cells))
  rw [← hv, ← hu, ← hb, ← hc, e6, cut 2 2, cut 1 1, cut 0 1, List.drop_zero]
theorem open_sacts {H : Type} {enc : TypeId × Value → H} {W : World} {r : Reach} {b0 : Nat} {v : Value} {d : DataW H} {ps : List MemPlace} (hv : Value.okWide Try.prog W r b0 22 v) (h : DataW.Trod enc Try.prog W 0 (fun _ => true) true 22 v d ps) (hw : ∀ n ∈ DataW.weights Try.prog 22 d, n ≤ 140737488351232) :
    ∃ a : (Option Addr × Nat × Nat) × List ActV, v = .slice a.1.1 a.1.2.1 a.1.2.2 ∧ Sl W 41 a.1.1 a.1.2.1 a.1.2.2 (acv a.2) ∧ a.2.length = a.1.2.1 ∧ ∀ x ∈ a.2, x.at W := by
  obtain ⟨ao, n, c, rfl⟩ := okWide_slice Try.underlying22 hv
  obtain ⟨ao', n', c', L, h1, h2, h3, h4, h8⟩ := (Rd.of h hw).slice Try.underlying22 (by kernel_rfl : Try.prog.cellsOf 35 = 41) (by decide) (by kernel_rfl : Try.prog.bytesOf 35 = 136)
  simp [Value.cells] at h1
  obtain ⟨rfl, rfl, rfl⟩ := h1
  obtain ⟨l, h5, h6, h7⟩ := flat_many (f := ActV.cells) (p := fun x => x.at W) fun x hx => rd_sact (h4 x hx).2
  exact ⟨((ao, n, c), l), rfl, (by show Sl W 41 ao n c (acv l); rw [acv, ← h5]; exact h2), by rw [h6, h3], h7⟩
abbrev sacts_zero : Value := .slice none 0 0
/-- Block b has what was met, view by view. -/
def Met (w : World) (b n c : Nat) (m : MetV) : Prop := ∃ f, MapR Try.prog 3 w b n c f ∧ ∀ v, (Lit.int .i64 v).wf = true → f (.int .i64 v) = (m v).map fun d => .agg (bv d).toArray
theorem Met.same {w w' : World} {b n c : Nat} {m : MetV} (h : Met w b n c m) (k : Same w w') : Met w' b n c m := let ⟨f, h1, h2⟩ := h; ⟨f, h1.same k, h2⟩
theorem Met.keep {w w' : World} {b n c : Nat} {m : MetV} {p : Nat → Prop} (h : Met w b n c m) (k : Keep p w w') (hp : ¬ p b) : Met w' b n c m := let ⟨f, h1, h2⟩ := h; ⟨f, h1.keep k hp, h2⟩
theorem Met.lt {w : World} {b n c : Nat} {m : MetV} (h : Met w b n c m) : b < w.heap.size := let ⟨_, h1, _⟩ := h; h1.lt
def zDig : List UInt8 := List.replicate 32 0
theorem met_get (m : MetV) (v : Int) : ((m v).map fun d => Value.agg (bv d).toArray).getD (.agg (bv zDig).toArray) = .agg (bv ((m v).getD zDig)).toArray := by cases m v <;> rfl
section
variable {ops : Array Oper} {rest : List Oper} {o : Oper} {a : Act} {Q : Exit → Act → World → Prop} {w : World} {b n c : Nat} {m : MetV}
theorem met_lookOk (v : Int) (hg : Region.wanted o (yielded ops a.tmps) = true) (x y : Operand) (ho : o.op = .lookup 43 x y true) (hm : a.eval x = .map (some b)) (hM : Met w b n c m) (hy : a.eval y = .int .i64 v) (hv : (Lit.int .i64 v).wf = true)
    (h : wpList Try.prog ops Q rest (a.put o.dst (.tuple #[.agg (bv ((m v).getD zDig)).toArray, .bool (m v).isSome])) w) : wpList Try.prog ops Q (o :: rest) a w := by
  obtain ⟨f, h1, h2⟩ := hM
  refine map_lookOk hg x y ho (Maps.int_keyed Try.underlying3) Try.underlying43 (z := .agg (bv zDig).toArray) (by kernel_rfl) hm h1 hy (Maps.keyOf_int_mk Try.underlying3 hv) ?_
  rw [h2 v hv, met_get, Option.isSome_map]
  exact h
theorem met_look (v : Int) (hg : Region.wanted o (yielded ops a.tmps) = true) (x y : Operand) (ho : o.op = .lookup 43 x y false) (hm : a.eval x = .map (some b)) (hM : Met w b n c m) (hy : a.eval y = .int .i64 v) (hv : (Lit.int .i64 v).wf = true)
    (h : wpList Try.prog ops Q rest (a.put o.dst (.agg (bv ((m v).getD zDig)).toArray)) w) : wpList Try.prog ops Q (o :: rest) a w := by
  obtain ⟨f, h1, h2⟩ := hM
  refine map_look hg x y ho (Maps.int_keyed Try.underlying3) Try.underlying43 (z := .agg (bv zDig).toArray) (by kernel_rfl) hm h1 hy (Maps.keyOf_int_mk Try.underlying3 hv) ?_
  rw [h2 v hv, met_get]
  exact h
theorem met_put (v : Int) (d : List UInt8) (hg : Region.wanted o (yielded ops a.tmps) = true) (x y z : Operand) (ho : o.op = .mapUpdate 43 x y z) (hm : a.eval x = .map (some b)) (hM : Met w b n c m) (hn : n < maxLen) (hy : a.eval y = .int .i64 v) (hv : (Lit.int .i64 v).wf = true) (hz : a.eval z = .agg (bv d).toArray)
    (h : ∀ w' c', Met w' b (n + 1) c' (m.with v d) → Keep (· = b) w w' → wpList Try.prog ops Q rest (a.put o.dst undef) w') : wpList Try.prog ops Q (o :: rest) a w := by
  obtain ⟨f, h1, h2⟩ := hM
  refine map_put hg x y z ho (Maps.int_keyed Try.underlying3) Try.underlying43 hm h1 hn hy hz (Maps.keyOf_int_mk Try.underlying3 hv) fun w' h3 h4 => h w' _ ⟨_, h3, fun u hu => ?_⟩ h4
  unfold MetV.with
  by_cases e : u = v
  · subst e
    rw [setF_same, if_pos rfl]
    rfl
  · rw [setF_other _ _ (fun h => e (by injection h)), if_neg e, h2 u hu]
end
theorem Met.mono {w : World} {b n c : Nat} {m : MetV} (h : Met w b n c m) : Met w b (n + 1) c m := let ⟨f, h1, h2⟩ := h; ⟨f, h1.mono (Nat.le_succ n), h2⟩
theorem rentSame_self (n : Int) (b : BatV) (c : CertV) (w : World) (hb : b.at w) (hc : c.at w) : Calls Try.prog 21 #[.agg (entCells n b c).toArray, .agg (entCells n b c).toArray] w fun e w' => e = .returned (.bool true) ∧ Same w w' := by
  have := rentSame_any n n b b c c w hb hb hc hc
  rw [batSame_self, CertV.same_self, decide_eq_true (rfl : n = n)] at this
  exact this
/-- What a slot's parts are told of. -/
abbrev Fits (w : World) (s : SlotV) : Prop := s.fits (fun b => b.at w ∧ b.small) (fun c => c.at w) (fun x => (Lit.int .i64 x).wf = true)
theorem zero_small : zeroBat.small := ⟨by decide, fun r hr => by cases hr⟩
theorem zero_fits (w : World) : Fits w zeroSlot := ⟨⟨zeroBat_at' w, zero_small⟩, ⟨zeroBat_at' w, zero_small⟩, ⟨zeroBat_at' w, zero_small⟩, zeroCert_at w, zeroCert_at w, by decide, by decide⟩
set_option maxRecDepth 100000 in
set_option maxHeartbeats 25600000 in
theorem walk_SlotOnce (w : World) (a : (Option Addr × Nat × Nat) × List ActV) (ha : Sl w 41 a.1.1 a.1.2.1 a.1.2.2 (acv a.2) ∧ a.2.length = a.1.2.1 ∧ ∀ x ∈ a.2, x.at w) :
    Calls Try.prog 3 #[.slice a.1.1 a.1.2.1 a.1.2.2] w fun e w' => e = .returned (.bool true) ∧ Same w w' := by
  obtain ⟨⟨ao, n, cap⟩, L⟩ := a
  obtain ⟨hsl, hlen, hat⟩ := ha
  simp only at hsl hlen hat ⊢
  have hl := Lib.hid lives18
  have hwfA : ∀ x ∈ L, x.cert.vote.wf := fun x hx => (hat x hx).2.2.2.1
  replace hsl := Lib.hid hsl
  replace hlen := Lib.hid hlen
  replace hat := Lib.hid hat
  replace hwfA := Lib.hid hwfA
  by_cases hn60 : n ≤ 60
  · have d60 : decide (60 < (n : Int)) = false := decide_eq_false (by omega)
    go_enter Try.func3, Try.ntmps3
    go_upto_region 4 with fail
    clear d60
    go_loopw [20] (fun i wr => ∃ k : Nat, k ≤ n ∧ i = .int .i64 k ∧ (∀ j, j < k → (actAt L j).bat.small) ∧ Same w wr) (fun i _ => n - (intOf i).toNat)
    case atStart => exact ⟨0, by omega, rfl, fun j hj => by omega, Same.refl⟩
    case round =>
      obtain ⟨k, hk, rfl, hin, hs⟩ := hrel
      by_cases hlt : k < n
      · have hA0 := hat.out _ (actAt_mem (l := L) (i := k) (by rw [hlen.out]; exact hlt))
        obtain ⟨bk, off, rfl, hr⟩ := act_range hsl.out hlen.out hwfA.out hlt
        obtain ⟨A, hAe⟩ : ∃ A, A = actAt L k := ⟨_, rfl⟩
        rw [← hAe] at hr hA0
        have hra := hs.range hr
        have hwf := hA0.2.2.2.1
        have hinfL := Lib.hid (act_infoL hwf)
        have hinf := Lib.hid (act_info hwf)
        have hszA := Lib.hid (ActV.len hwf)
        have hone : A.cells.toArray.all (·.oneCell') = true := all_of (act_oneL A)
        have fb := Lib.hid (bat_infoL A.bat)
        have q0 : 0 ≤ (k : Int) := by omega
        have q1 : (k : Int) < (n : Int) := by omega
        clear hr
        replace hone := Lib.hid hone
        replace hra := Lib.hid hra
        replace hA0 := Lib.hid hA0
        replace hAe := Lib.hid hAe
        replace hwf := Lib.hid hwf
        replace hin := Lib.hid hin
        replace hs := Lib.hid hs
        go_upto_region 6 with (first | (refine load_mid rfl _ _ rfl bk (off + k * 41) rfl A.cells _ hra.out Try.underlying35 rfl hinfL.out ?_) | (refine alloc_new rfl 35 rfl zeroAct.cells.toArray (by kernel_rfl) ?_; intro w1 hd hs1; have hdl := blk_lt hd; replace hd := Lib.hid hd; replace hs1 := Lib.hid hs1) | (refine store_row rfl _ _ _ rfl wr.heap.size A.cells.toArray rfl rfl _ _ hd.out hinf.out (by rw [List.size_toArray, List.size_toArray, hszA.out, ActV.len zeroVote_wf]) hone.out ?_; intro w2 rS hk2; replace rS := Lib.hid rS; replace hk2 := Lib.hid hk2))
        have hs2 : Same wr w2 := hs1.out.keep hk2.out (fun x hx hv => by omega)
        have hw2 := Lib.hid (hs.out.trans hs2)
        clear hs2 hk2 hs1 hd hs
        go_simp
        go_wp2_with (first | (refine load_mid rfl _ _ rfl wr.heap.size 2 rfl A.bat.cells _ (ac_bat rS.out) Try.underlying26 rfl fb.out ?_) | (refine build_sl (W' := w2.alloc (.cells (bvs [A.bat]).toArray 26)) (.slice (some ⟨w2.heap.size, 0, none⟩) 1 1) rfl rfl (by kernel_rfl) ?_))
        have hlt7 := light7_any (some ⟨w2.heap.size, 0, none⟩) 1 1 [A.bat] (w2.alloc (.cells (bvs [A.bat]).toArray 26)) (bvs_box [A.bat] 1 rfl (by unfold maxLen; omega)) rfl (by
          intro x hx
          simp only [List.mem_cons, List.not_mem_nil, or_false] at hx
          subst hx
          exact BatV.same hA0.out.2.2.1 (hw2.out.trans (Same.refl.alloc _)))
        refine hlt7.mono ?_
        rintro e w3 ⟨B, rfl, hB, hs'⟩
        have hs3 : Same w2 w3 := (Same.refl.alloc _).trans hs'
        have hw3 := Lib.hid (hw2.out.trans hs3)
        have rS3 := Lib.hid (hs3.at rS.out)
        clear hs' hlt7 hs3 hw2 rS
        replace hB := Lib.hid hB
        cases B
        · go_upto_region 7 with fail
          go_wp2_with fail
          refine (hl.out _).mono ?_
          rintro e w4 ⟨rfl, hs4⟩
          go_wp2
          go_ret
          exact ⟨rfl, hw3.out.trans hs4⟩
        · have hnew : ∀ j, j < k + 1 → (actAt L j).bat.small := by
            intro j hj
            by_cases e : j = k
            · rw [e, ← hAe.out]
              exact hB.out rfl _ (by simp)
            · exact hin.out j (by omega)
          clear hB
          replace hnew := Lib.hid hnew
          have c40 := ac_signs rS3.out hwf.out
          obtain ⟨n1, hn1e⟩ : ∃ x, x = A.cert.signs.length := ⟨_, rfl⟩
          rw [← hn1e] at c40
          clear hn1e
          by_cases h1 : (n1 : Int) ≤ 100
          · have h1' : decide (100 < (n1 : Int)) = false := decide_eq_false (by omega)
            go_wp2
            go_roundw
            case rel => exact ⟨k + 1, by omega, by go_num, hnew.out, hw3.out⟩
            case measure => simp [intOf]; omega
          · have h1' : decide (100 < (n1 : Int)) = true := decide_eq_true (by omega)
            go_upto_region 7 with fail
            go_wp2_with fail
            refine (hl.out _).mono ?_
            rintro e w4 ⟨rfl, hs4⟩
            go_wp2
            go_ret
            exact ⟨rfl, hw3.out.trans hs4⟩
      · obtain rfl : k = n := by omega
        replace hin := Lib.hid hin
        rename World => wp
        have hsp := Lib.hid hs
        clear hs hlt hk
        go_upto_region 11 with (first | (refine alloc_new rfl 42 rfl zeroSlot.cells.toArray (by kernel_rfl) ?_; intro w1 hd hs1; have hdl := blk_lt hd; replace hd := Lib.hid hd; replace hs1 := Lib.hid hs1) | (refine map_make (k := 3) rfl rfl ?_; intro w2 hM0 hs2 hz2; have hml := hM0.lt; replace hM0 := Lib.hid hM0; replace hs2 := Lib.hid hs2; replace hz2 := Lib.hid hz2))
        obtain ⟨bs, hbs⟩ : ∃ x, x = wp.heap.size := ⟨_, rfl⟩
        obtain ⟨bm, hbm⟩ : ∃ x, x = w1.heap.size := ⟨_, rfl⟩
        have hz1 := hs1.out.size
        have u1 : wp.heap.size ≤ bs := by omega
        have u2 : bs < bm := by omega
        have u3 : bm < w2.heap.size := by omega
        have hS0 : w2.heap[bs]? = some (.cells zeroSlot.cells.toArray 42 (0, 0)) := by rw [hbs]; exact hs2.out.at hd.out
        have hM1 : Met w2 bm 0 0 (fun _ => none) := ⟨_, by rw [hbm]; exact hM0.out, fun v _ => rfl⟩
        rw [← hbs, ← hbm]
        have st0 : Same wp w2 := hs1.out.trans hs2.out
        clear hbs hbm hd hM0 hs1 hs2 hz1 hz2 hdl hml
        replace hS0 := Lib.hid hS0
        replace hM1 := Lib.hid hM1
        replace st0 := Lib.hid st0
        go_simp
        go_upto_region 12 with fail
        go_loopw [41] (fun i wr => ∃ (j c : Nat) (s : SlotV) (m : MetV), j ≤ k ∧ i = .int .i64 j ∧ wr.heap[bs]? = some (.cells s.cells.toArray 42 (0, 0)) ∧ Met wr bm j c m ∧ OnceInv s m ∧ Fits w s ∧ Same wp wr) (fun i _ => k - (intOf i).toNat)
        case atStart => exact ⟨0, 0, zeroSlot, fun _ => none, by omega, rfl, hS0.out, hM1.out, once_start, zero_fits w, st0.out⟩
        case round =>
          clear hS0 hM1 st0 u3
          obtain ⟨j, c, s, m, hk, rfl, hS, hM, hinv, hfit, tt⟩ := hrel
          by_cases hlt : j < k
          · have hA0 := hat.out _ (actAt_mem (l := L) (i := j) (by rw [hlen.out]; exact hlt))
            have hAs := hin.out j hlt
            obtain ⟨bk, off, rfl, hr⟩ := act_range hsl.out hlen.out hwfA.out hlt
            obtain ⟨A, hAe⟩ : ∃ A, A = actAt L j := ⟨_, rfl⟩
            rw [← hAe] at hr hA0 hAs
            clear hAe
            have hra := Lib.hid ((hsp.out.trans tt).range hr)
            have hwf := hA0.2.2.2.1
            have hinfL := Lib.hid (act_infoL hwf)
            have hinf := Lib.hid (act_info hwf)
            have hszA := Lib.hid (ActV.len hwf)
            have hone : A.cells.toArray.all (·.oneCell') = true := all_of (act_oneL A)
            have q0 : 0 ≤ (j : Int) := by omega
            have q1 : (j : Int) < (k : Int) := by omega
            clear hr
            replace hone := Lib.hid hone
            replace hA0 := Lib.hid hA0
            replace hAs := Lib.hid hAs
            replace hwf := Lib.hid hwf
            replace tt := Lib.hid tt
            replace hS := Lib.hid hS
            replace hM := Lib.hid hM
            replace hinv := Lib.hid hinv
            replace hfit := Lib.hid hfit
            have l1 := blk_lt hS.out
            have l2 := hM.out.lt
            go_upto_region 16 with (first | (refine load_mid rfl _ _ rfl bk (off + j * 41) rfl A.cells _ hra.out Try.underlying35 rfl hinfL.out ?_) | (refine alloc_new rfl 35 rfl zeroAct.cells.toArray (by kernel_rfl) ?_; intro w1 hd hs1; have hdl := blk_lt hd; replace hd := Lib.hid hd; replace hs1 := Lib.hid hs1) | (refine store_row rfl _ _ _ rfl wr.heap.size A.cells.toArray rfl rfl _ _ hd.out hinf.out (by rw [List.size_toArray, List.size_toArray, hszA.out, ActV.len zeroVote_wf]) hone.out ?_; intro w2 rA hk2; have hAl := blk_lt rA; replace rA := Lib.hid rA; replace hk2 := Lib.hid hk2) | (refine alloc_new rfl 42 rfl zeroSlot.cells.toArray (by kernel_rfl) ?_; intro w3 hx hs3; have hxl := blk_lt hx; replace hx := Lib.hid hx; replace hs3 := Lib.hid hs3))
            obtain ⟨ba, hba⟩ : ∃ x, x = wr.heap.size := ⟨_, rfl⟩
            obtain ⟨bx, hbx⟩ : ∃ x, x = w2.heap.size := ⟨_, rfl⟩
            have z1 := hs1.out.size
            have z2 := hk2.out.size
            have hs' : Same wr w3 := (hs1.out.keep hk2.out (fun x hx hv => by omega)).trans hs3.out
            have ra := Lib.hid (hs3.out.at rA.out)
            have rx := hx
            rw [← hba] at ra ⊢
            rw [← hbx] at rx ⊢
            have v1 : wp.heap.size ≤ bs := u1
            have v2 : bs < ba := by omega
            have v3 : bm < ba := by omega
            have v4 : ba < bx := by omega
            replace hS := Lib.hid (hs'.at hS.out)
            replace hM := Lib.hid (hM.out.same hs')
            replace tt := Lib.hid (tt.out.trans hs')
            clear hs' hba hbx hd hs1 rA hk2 hx hs3 z1 z2 hdl hAl hxl hra l1 l2
            go_simp
            have c0 := ac_kind ra.out
            go_upto_block 4 with fail
            go_cut [10] (fun v wx => ∃ (X : SlotV) (N : Nat), v = .int .i64 (N : Nat) ∧ wx.heap[bx]? = some (.cells X.cells.toArray 42 (0, 0)) ∧ (N = 0 → OnceStep s X m) ∧ (N ≠ 0 → X = zeroSlot) ∧ Fits w X ∧ Keep (· = bx) w3 wx)
            case first =>
              have hwS := (fits_at hfit.out).1
              have hWm := Lib.hid (hsp.out.trans tt.out)
              have fS := Lib.hid (slot_info hwS.wf)
              have iB := Lib.hid (bat_infoL A.bat)
              have iC := Lib.hid (cert_infoL hwf.out)
              have kA := Lib.hid (acc_any s A.view A.bat w3 (SlotV.same' hwS hWm.out) (BatV.same hA0.out.2.2.1 hWm.out) (fits_at hfit.out).2.1 hAs.out)
              have kH := Lib.hid (hold_any s A.cert w3 (SlotV.same' hwS hWm.out) (CertV.same' hA0.out.2.2.2 hWm.out) (fits_at hfit.out).2.1)
              have kD := Lib.hid (decide_any s A.bat A.cert w3 (SlotV.same' hwS hWm.out) (BatV.same hA0.out.2.2.1 hWm.out) (CertV.same' hA0.out.2.2.2 hWm.out) (fits_at hfit.out).2.2.2 hAs.out)
              have cv := ac_view ra.out
              have pA := Lib.hid (ac_bat ra.out)
              have pC := Lib.hid (ac_cert ra.out)
              have l4 := blk_lt rx.out
              clear hwS
              by_cases hk0 : A.kind = 0
              · have b0 : (A.kind == 0) = true := by simp [hk0]
                clear kH kD hk0
                obtain ⟨⟨X, N⟩, hXe⟩ : ∃ X, X = s.accept A.view A.bat := ⟨_, rfl⟩
                rw [← hXe] at kA
                have hst : N = 0 → OnceStep s X m := by rintro rfl; exact once_accept hinv.out hXe.symm
                have hbd : N ≠ 0 → X = zeroSlot := fun h => accept_bad hXe.symm h
                have hXf : Fits w X := fits_accept hfit.out (zero_fits w) ⟨hA0.out.2.2.1, hAs.out⟩ hA0.out.2.1 hXe.symm
                unfold RetSlot at kA
                simp only at kA
                have hwX := (fits_at hXf).1.wf
                have fX := Lib.hid (slot_info hwX)
                have zX := Lib.hid (slot_size zeroSlot_wf hwX)
                clear hXe hwX
                replace hst := Lib.hid hst
                replace hbd := Lib.hid hbd
                replace hXf := Lib.hid hXf
                go_wp2_with (first | (refine load_row rfl _ _ rfl bs rfl _ _ _ _ hS.out Try.underlying42 rfl fS.out ?_) | (refine load_mid rfl _ _ rfl ba 2 rfl A.bat.cells _ pA.out Try.underlying26 rfl iB.out ?_) | (refine load_mid rfl _ _ rfl ba 4 rfl A.cert.cells _ pC.out Try.underlying33 rfl iC.out ?_))
                refine kA.out.mono ?_
                rintro e w4 ⟨rfl, hs4⟩
                have rx4 := Lib.hid (hs4.at rx.out)
                clear kA
                go_wp2_with (refine store_row rfl _ _ _ rfl bx X.cells.toArray rfl rfl _ _ rx4.out fX.out zX.out (slot_one X) ?_; intro w5 rx5 hk5; replace rx5 := Lib.hid rx5; replace hk5 := Lib.hid hk5)
                go_meet
                exact ⟨X, N, rfl, rx5.out, hst.out, hbd.out, hXf.out, (Keep.of_same hs4).trans hk5.out (fun _ _ h => h)⟩
              · have b0 : (A.kind == 0) = false := by simp [hk0]
                by_cases hk1 : A.kind = 1
                · have b1 : (A.kind == 1) = true := by simp [hk1]
                  clear kA kD hk0 hk1
                  obtain ⟨⟨X, N⟩, hXe⟩ : ∃ X, X = s.hold A.cert := ⟨_, rfl⟩
                  rw [← hXe] at kH
                  have hst : N = 0 → OnceStep s X m := by rintro rfl; exact once_hold hinv.out hXe.symm
                  have hbd : N ≠ 0 → X = zeroSlot := fun h => hold_bad hXe.symm h
                  have hXf : Fits w X := fits_hold hfit.out (zero_fits w) hA0.out.2.2.2 hXe.symm
                  unfold RetSlot at kH
                  simp only at kH
                  have hwX := (fits_at hXf).1.wf
                  have fX := Lib.hid (slot_info hwX)
                  have zX := Lib.hid (slot_size zeroSlot_wf hwX)
                  clear hXe hwX
                  replace hst := Lib.hid hst
                  replace hbd := Lib.hid hbd
                  replace hXf := Lib.hid hXf
                  go_wp2_with (first | (refine load_row rfl _ _ rfl bs rfl _ _ _ _ hS.out Try.underlying42 rfl fS.out ?_) | (refine load_mid rfl _ _ rfl ba 2 rfl A.bat.cells _ pA.out Try.underlying26 rfl iB.out ?_) | (refine load_mid rfl _ _ rfl ba 4 rfl A.cert.cells _ pC.out Try.underlying33 rfl iC.out ?_))
                  refine kH.out.mono ?_
                  rintro e w4 ⟨rfl, hs4⟩
                  have rx4 := Lib.hid (hs4.at rx.out)
                  clear kH
                  go_wp2_with (refine store_row rfl _ _ _ rfl bx X.cells.toArray rfl rfl _ _ rx4.out fX.out zX.out (slot_one X) ?_; intro w5 rx5 hk5; replace rx5 := Lib.hid rx5; replace hk5 := Lib.hid hk5)
                  go_meet
                  exact ⟨X, N, rfl, rx5.out, hst.out, hbd.out, hXf.out, (Keep.of_same hs4).trans hk5.out (fun _ _ h => h)⟩
                · have b1 : (A.kind == 1) = false := by simp [hk1]
                  clear kA kH hk0 hk1
                  obtain ⟨⟨X, N⟩, hXe⟩ : ∃ X, X = s.decide A.bat A.cert := ⟨_, rfl⟩
                  rw [← hXe] at kD
                  have hst : N = 0 → OnceStep s X m := by rintro rfl; exact once_decide hinv.out hXe.symm
                  have hbd : N ≠ 0 → X = zeroSlot := fun h => decide_bad hXe.symm h
                  have hXf : Fits w X := fits_decide hfit.out (zero_fits w) ⟨hA0.out.2.2.1, hAs.out⟩ hA0.out.2.2.2 hA0.out.2.2.2.1.2.2.2.2 hXe.symm
                  unfold RetSlot at kD
                  simp only at kD
                  have hwX := (fits_at hXf).1.wf
                  have fX := Lib.hid (slot_info hwX)
                  have zX := Lib.hid (slot_size zeroSlot_wf hwX)
                  clear hXe hwX
                  replace hst := Lib.hid hst
                  replace hbd := Lib.hid hbd
                  replace hXf := Lib.hid hXf
                  go_wp2_with (first | (refine load_row rfl _ _ rfl bs rfl _ _ _ _ hS.out Try.underlying42 rfl fS.out ?_) | (refine load_mid rfl _ _ rfl ba 2 rfl A.bat.cells _ pA.out Try.underlying26 rfl iB.out ?_) | (refine load_mid rfl _ _ rfl ba 4 rfl A.cert.cells _ pC.out Try.underlying33 rfl iC.out ?_))
                  refine kD.out.mono ?_
                  rintro e w4 ⟨rfl, hs4⟩
                  have rx4 := Lib.hid (hs4.at rx.out)
                  clear kD
                  go_wp2_with (refine store_row rfl _ _ _ rfl bx X.cells.toArray rfl rfl _ _ rx4.out fX.out zX.out (slot_one X) ?_; intro w5 rx5 hk5; replace rx5 := Lib.hid rx5; replace hk5 := Lib.hid hk5)
                  go_meet
                  exact ⟨X, N, rfl, rx5.out, hst.out, hbd.out, hXf.out, (Keep.of_same hs4).trans hk5.out (fun _ _ h => h)⟩
            case rest =>
              obtain ⟨X, N, rfl, rx2, hst, hbd, hXf, hk⟩ := hcut
              rename World => w4
              replace hS := Lib.hid ((hk.block _ (blk_lt hS.out) (by omega)).trans hS.out)
              replace hM := Lib.hid (hM.out.keep hk (by omega))
              replace tt := Lib.hid (tt.out.keep hk (fun x hx hv => by omega))
              replace rx := Lib.hid rx2
              have hinvk := hinv
              clear hk rx2 ra c0 hA0 hAs hinf hinfL hszA hone hwf hinv
              replace hst := Lib.hid hst
              replace hbd := Lib.hid hbd
              replace hXf := Lib.hid hXf
              by_cases hN : N = 0
              · have hN1 : ((N : Int) != 0) = false := by simp [hN]
                have hst' := hst.out hN
                clear hst hbd hN
                obtain ⟨st1, st2, st3, st4, st5⟩ := hst'
                have hinf3 := st5
                have hwX := (fits_at hXf.out).1
                have hwS := (fits_at hfit.out).1
                have fS := Lib.hid (slot_info hwS.wf)
                have fX := Lib.hid (slot_info hwX.wf)
                have szX := Lib.hid (slot_size hwS.wf hwX.wf)
                have wS := Lib.hid hwS.wf
                have wX := Lib.hid hwX.wf
                obtain ⟨i, hi⟩ : ∃ x, x = s.is := ⟨_, rfl⟩
                obtain ⟨hh, hhe⟩ : ∃ x, x = s.holds := ⟨_, rfl⟩
                obtain ⟨dd, hdd⟩ : ∃ x, x = s.decided := ⟨_, rfl⟩
                obtain ⟨xi, hxi⟩ : ∃ x, x = X.is := ⟨_, rfl⟩
                obtain ⟨xh, hxh⟩ : ∃ x, x = X.holds := ⟨_, rfl⟩
                obtain ⟨xd, hxd⟩ : ∃ x, x = X.decided := ⟨_, rfl⟩
                have y1 : i = true → xi = true ∧ decide (X.view < s.view) = false := fun h => by rw [hi] at h; have := st1 h; exact ⟨hxi.trans this.1, decide_eq_false (by omega)⟩
                have y2 : hh = true → xh = true ∧ decide (X.hcert.vote.view < s.hcert.vote.view) = false := fun h => by rw [hhe] at h; have := st2 h; exact ⟨hxh.trans this.1, decide_eq_false (by omega)⟩
                have y3 : dd = true → xd = true := fun h => by rw [hdd] at h; exact hxd.trans (st3 h).1
                have y4 : dd = true → ∀ w', Same w w' → Calls Try.prog 21 #[.agg (entCells X.eslot X.ebat X.ecert).toArray, .agg (entCells s.eslot s.ebat s.ecert).toArray] w' fun e w'' => e = .returned (.bool true) ∧ Same w' w'' := fun h w' hw' => by
                  rw [hdd] at h
                  obtain ⟨-, e1, e2, e3⟩ := st3 h
                  rw [e1, e2, e3]
                  exact rentSame_self s.eslot s.ebat s.ecert w' (BatV.same hwS.2.2.2.2.2.1 hw') (CertV.same' hwS.2.2.2.2.2.2 hw')
                have y5 : xi = true → m X.view = none ∨ m X.view = some (bDig X.bat) := fun h => st4 (hxi.symm.trans h)
                have y6 : xh = true → (m.next X) X.hcert.vote.view = some X.hcert.vote.dig := fun h => st5.2.2.1 (hxh.symm.trans h)
                have y7 : xd = true → X.ecert.vote.dig = bDig X.ebat := fun h => st5.2.2.2 (hxd.symm.trans h)
                have iE := Lib.hid (ent_infoL (s := X.eslot) (b := X.ebat) hwX.wf.2)
                have iE' := Lib.hid (ent_infoL (s := s.eslot) (b := s.ebat) hwS.wf.2)
                have cXi := sl_is rx.out
                have cXh := sl_holds rx.out wX.out
                have cXd := sl_decided rx.out wX.out
                have cSi := sl_is hS.out
                have cSh := sl_holds hS.out wS.out
                have cSd := sl_decided hS.out wS.out
                rw [← hxi] at cXi
                rw [← hxh] at cXh
                rw [← hxd] at cXd
                rw [← hi] at cSi
                rw [← hhe] at cSh
                rw [← hdd] at cSd
                have cXv := Lib.hid (sl_view rx.out)
                have cSv := Lib.hid (sl_view hS.out)
                have cXw := Lib.hid (sl_hview rx.out)
                have cSw := Lib.hid (sl_hview hS.out)
                have pX := Lib.hid (sl_ent rx.out wX.out)
                have pS := Lib.hid (sl_ent hS.out wS.out)
                have hWm := Lib.hid (hsp.out.trans tt.out)
                clear st1 st2 st3 st4 st5 hwX hwS hi hhe hdd
                replace hinf3 := Lib.hid hinf3
                replace hxi := Lib.hid hxi
                replace hxh := Lib.hid hxh
                replace hxd := Lib.hid hxd
                replace y1 := Lib.hid y1
                replace y2 := Lib.hid y2
                replace y3 := Lib.hid y3
                replace y4 := Lib.hid y4
                replace y5 := Lib.hid y5
                replace y6 := Lib.hid y6
                replace y7 := Lib.hid y7
                replace cXi := Lib.hid cXi
                replace cXh := Lib.hid cXh
                replace cXd := Lib.hid cXd
                replace cSi := Lib.hid cSi
                replace cSh := Lib.hid cSh
                replace cSd := Lib.hid cSd
                go_upto_region 25 with fail
                refine wp_region_seqM [(83, 0), (84, 1), (85, 2), (86, 3), (87, 4), (88, 5), (89, 6), (90, 7), (91, 8), (92, 9), (93, 10), (94, 11), (95, 12), (96, 13), (97, 14), (98, 15), (99, 16), (100, 17), (101, 18), (102, 19), (103, 20), (104, 21), (105, 22), (106, 23), (107, 24), (108, 25), (109, 26), (110, 27), (111, 28), (112, 29), (113, 30), (114, 31), (115, 32), (116, 33), (117, 34), (118, 35), (119, 36), (120, 37), (121, 38), (122, 39), (123, 40), (124, 41), (125, 42), (126, 43), (127, 44), (128, 45), (129, 46), (130, 47), (131, 48), (132, 49), (133, 50), (134, 51), (135, 52)] [[], [0], [1], [2], [3, 2], [4, 2], [5, 2], [6], [7, 6], [6], [9, 6], [8, 10, 6], [6, 11, 2], [2, 12], [13], [14], [15, 14], [16, 14], [17], [18, 17], [19, 17], [20, 17], [21], [22, 21], [23, 21], [24, 21], [25, 21], [21], [27, 21], [28, 21], [29, 21], [30, 21], [26, 31, 21], [21, 32, 17], [17, 33, 14], [14, 34], [35], [36], [37, 36], [38, 36], [39], [40, 39], [41, 39], [42, 39], [43], [44, 43], [43], [46, 43], [45, 47, 43], [48, 43], [43, 49, 39], [39, 50, 36], [36, 51]] Same (Same _) [isV (.pointer (some ⟨bs, 3, none⟩)), isV (.bool i), isV (.bool i), isV (cond i (.pointer (some ⟨bx, 3, none⟩)) undef), isV (cond i (.bool true) undef), isV (cond i (.bool false) undef), isV (cond i (.bool false) undef), isV (cond i (.pointer (some ⟨bx, 0, none⟩)) undef), isV (cond i (.int .i64 X.view) undef), isV (cond i (.pointer (some ⟨bs, 0, none⟩)) undef), isV (cond i (.int .i64 s.view) undef), isV (cond i (.bool false) undef), isV (cond i (.bool false) undef), isV (.bool false), isV (.bool false), isV (.pointer (some ⟨bs, 43, none⟩)), isV (.bool hh), isV (.bool hh), isV (cond hh (.pointer (some ⟨bx, 43, none⟩)) undef), isV (cond hh (.bool true) undef), isV (cond hh (.bool false) undef), isV (cond hh (.bool false) undef), isV (cond hh (.pointer (some ⟨bx, 4, none⟩)) undef), isV (cond hh (.pointer (some ⟨bx, 6, none⟩)) undef), isV (cond hh (.pointer (some ⟨bx, 6, none⟩)) undef), isV (cond hh (.pointer (some ⟨bx, 8, none⟩)) undef), isV (cond hh (.int .i64 X.hcert.vote.view) undef), isV (cond hh (.pointer (some ⟨bs, 4, none⟩)) undef), isV (cond hh (.pointer (some ⟨bs, 6, none⟩)) undef), isV (cond hh (.pointer (some ⟨bs, 6, none⟩)) undef), isV (cond hh (.pointer (some ⟨bs, 8, none⟩)) undef), isV (cond hh (.int .i64 s.hcert.vote.view) undef), isV (cond hh (.bool false) undef), isV (cond hh (.bool false) undef), isV (.bool false), isV (.bool false), isV (.bool false), isV (.pointer (some ⟨bs, 84, none⟩)), isV (.bool dd), isV (.bool dd), isV (cond dd (.pointer (some ⟨bx, 84, none⟩)) undef), isV (cond dd (.bool true) undef), isV (cond dd (.bool false) undef), isV (cond dd (.bool false) undef), isV (cond dd (.pointer (some ⟨bx, 44, none⟩)) undef), isV (cond dd (.agg (entCells X.eslot X.ebat X.ecert).toArray) undef), isV (cond dd (.pointer (some ⟨bs, 44, none⟩)) undef), isV (cond dd (.agg (entCells s.eslot s.ebat s.ecert).toArray) undef), isV (cond dd (.bool true) undef), isV (cond dd (.bool false) undef), isV (cond dd (.bool false) undef), isV (.bool false), isV (.bool false)] Same.refl (fun _ _ h k => h.trans k) (by simp [isV_stable, isB_stable, isAny_stable]) (by decide +kernel) (l := [_, _, _, _, _, _, _, _, _, _, _, _, _, _, _, _, _, _, _, _, _, _, _, _, _, _, _, _, _, _, _, _, _, _, _, _, _, _, _, _, _, _, _, _, _, _, _, _, _, _, _, _, _]) rfl (by kernel_rfl) (fun u => by simp only [mkAct, List.foldl_cons, List.foldl_nil, List.setIfInBounds_toArray, List.set_cons_succ, List.set_cons_zero] <;> exact rfl) ?_ ?_
                · intro M hM
                  try dsimp only at hM
                  replace hM := Lib.hid hM
                  refine ⟨?_, ?_, ?_, ?_, ?_, ?_, ?_, ?_, ?_, ?_, ?_, ?_, ?_, ?_, ?_, ?_, ?_, ?_, ?_, ?_, ?_, ?_, ?_, ?_, ?_, ?_, ?_, ?_, ?_, ?_, ?_, ?_, ?_, ?_, ?_, ?_, ?_, ?_, ?_, ?_, ?_, ?_, ?_, ?_, ?_, ?_, ?_, ?_, ?_, ?_, ?_, ?_, ?_, trivial⟩
                  all_goals (intro u wx hI hp; rw [hM.out u])
                  · -- operation 0
                    go_wp2
                    refine stm_v rfl Same.refl ?_
                    rw [hM.out]; first | (simp only [upd, reduceIte, Nat.reduceEqDiff, Nat.reduceAdd, List.setIfInBounds_toArray, List.set_cons_succ, List.set_cons_zero, str]; done) | (simp [upd, str, *]; done)
                  · -- operation 1
                    obtain ⟨f0, -⟩ := hp
                    replace f0 : u 0 = (.pointer (some ⟨bs, 3, none⟩)) := f0
                    try simp only [f0, str]
                    have cx := hI.cell (cSi.out)
                    go_wp2
                    refine stm_v rfl Same.refl ?_
                    rw [hM.out]; first | (simp only [upd, reduceIte, Nat.reduceEqDiff, Nat.reduceAdd, List.setIfInBounds_toArray, List.set_cons_succ, List.set_cons_zero, f0, str]; done) | (simp [upd, f0, str, *]; done)
                  · -- operation 2
                    obtain ⟨f1, -⟩ := hp
                    replace f1 : u 1 = (.bool i) := f1
                    try simp only [f1, str]
                    go_wp2
                    refine stm_v rfl Same.refl ?_
                    rw [hM.out]; first | (simp only [upd, reduceIte, Nat.reduceEqDiff, Nat.reduceAdd, List.setIfInBounds_toArray, List.set_cons_succ, List.set_cons_zero, f1, str]; done) | (simp [upd, f1, str, *]; done)
                  · -- operation 3
                    obtain ⟨f2, -⟩ := hp
                    replace f2 : u 2 = (.bool i) := f2
                    cases i
                    · try simp only [f2, str]
                      go_wp2
                      refine stm_v rfl Same.refl ?_
                      rw [hM.out]; first | (simp only [upd, reduceIte, Nat.reduceEqDiff, Nat.reduceAdd, List.setIfInBounds_toArray, List.set_cons_succ, List.set_cons_zero, f2, str]; done) | (simp [upd, f2, str, *]; done)
                    · try simp only [f2, str]
                      go_wp2
                      refine stm_v rfl Same.refl ?_
                      rw [hM.out]; first | (simp only [upd, reduceIte, Nat.reduceEqDiff, Nat.reduceAdd, List.setIfInBounds_toArray, List.set_cons_succ, List.set_cons_zero, f2, str]; done) | (simp [upd, f2, str, *]; done)
                  · -- operation 4
                    obtain ⟨f3, f2, -⟩ := hp
                    replace f3 : u 3 = (cond i (.pointer (some ⟨bx, 3, none⟩)) undef) := f3
                    replace f2 : u 2 = (.bool i) := f2
                    cases i
                    · try simp only [cond_true, cond_false] at f3
                      try simp only [f3, f2, str]
                      go_wp2
                      refine stm_v rfl Same.refl ?_
                      rw [hM.out]; first | (simp only [upd, reduceIte, Nat.reduceEqDiff, Nat.reduceAdd, List.setIfInBounds_toArray, List.set_cons_succ, List.set_cons_zero, f3, f2, str]; done) | (simp [upd, f3, f2, str, *]; done)
                    · try simp only [cond_true, cond_false] at f3
                      try simp only [f3, f2, str]
                      have cx := hI.cell cXi.out
                      rw [(y1.out rfl).1] at cx
                      go_wp2
                      refine stm_v rfl Same.refl ?_
                      rw [hM.out]; first | (simp only [upd, reduceIte, Nat.reduceEqDiff, Nat.reduceAdd, List.setIfInBounds_toArray, List.set_cons_succ, List.set_cons_zero, f3, f2, str]; done) | (simp [upd, f3, f2, str, *]; done)
                  · -- operation 5
                    obtain ⟨f4, f2, -⟩ := hp
                    replace f4 : u 4 = (cond i (.bool true) undef) := f4
                    replace f2 : u 2 = (.bool i) := f2
                    cases i
                    · try simp only [cond_true, cond_false] at f4
                      try simp only [f4, f2, str]
                      go_wp2
                      refine stm_v rfl Same.refl ?_
                      rw [hM.out]; first | (simp only [upd, reduceIte, Nat.reduceEqDiff, Nat.reduceAdd, List.setIfInBounds_toArray, List.set_cons_succ, List.set_cons_zero, f4, f2, str]; done) | (simp [upd, f4, f2, str, *]; done)
                    · try simp only [cond_true, cond_false] at f4
                      try simp only [f4, f2, str]
                      go_wp2
                      refine stm_v rfl Same.refl ?_
                      rw [hM.out]; first | (simp only [upd, reduceIte, Nat.reduceEqDiff, Nat.reduceAdd, List.setIfInBounds_toArray, List.set_cons_succ, List.set_cons_zero, f4, f2, str]; done) | (simp [upd, f4, f2, str, *]; done)
                  · -- operation 6
                    obtain ⟨f5, f2, -⟩ := hp
                    replace f5 : u 5 = (cond i (.bool false) undef) := f5
                    replace f2 : u 2 = (.bool i) := f2
                    cases i
                    · try simp only [cond_true, cond_false] at f5
                      try simp only [f5, f2, str]
                      go_wp2
                      refine stm_v rfl Same.refl ?_
                      rw [hM.out]; first | (simp only [upd, reduceIte, Nat.reduceEqDiff, Nat.reduceAdd, List.setIfInBounds_toArray, List.set_cons_succ, List.set_cons_zero, f5, f2, str]; done) | (simp [upd, f5, f2, str, *]; done)
                    · try simp only [cond_true, cond_false] at f5
                      try simp only [f5, f2, str]
                      go_wp2
                      refine stm_v rfl Same.refl ?_
                      rw [hM.out]; first | (simp only [upd, reduceIte, Nat.reduceEqDiff, Nat.reduceAdd, List.setIfInBounds_toArray, List.set_cons_succ, List.set_cons_zero, f5, f2, str]; done) | (simp [upd, f5, f2, str, *]; done)
                  · -- operation 7
                    obtain ⟨f6, -⟩ := hp
                    replace f6 : u 6 = (cond i (.bool false) undef) := f6
                    cases i
                    · try simp only [cond_true, cond_false] at f6
                      try simp only [f6, str]
                      go_wp2
                      refine stm_v rfl Same.refl ?_
                      rw [hM.out]; first | (simp only [upd, reduceIte, Nat.reduceEqDiff, Nat.reduceAdd, List.setIfInBounds_toArray, List.set_cons_succ, List.set_cons_zero, f6, str]; done) | (simp [upd, f6, str, *]; done)
                    · try simp only [cond_true, cond_false] at f6
                      try simp only [f6, str]
                      go_wp2
                      refine stm_v rfl Same.refl ?_
                      rw [hM.out]; first | (simp only [upd, reduceIte, Nat.reduceEqDiff, Nat.reduceAdd, List.setIfInBounds_toArray, List.set_cons_succ, List.set_cons_zero, f6, str]; done) | (simp [upd, f6, str, *]; done)
                  · -- operation 8
                    obtain ⟨f7, f6, -⟩ := hp
                    replace f7 : u 7 = (cond i (.pointer (some ⟨bx, 0, none⟩)) undef) := f7
                    replace f6 : u 6 = (cond i (.bool false) undef) := f6
                    cases i
                    · try simp only [cond_true, cond_false] at f7 f6
                      try simp only [f7, f6, str]
                      go_wp2
                      refine stm_v rfl Same.refl ?_
                      rw [hM.out]; first | (simp only [upd, reduceIte, Nat.reduceEqDiff, Nat.reduceAdd, List.setIfInBounds_toArray, List.set_cons_succ, List.set_cons_zero, f7, f6, str]; done) | (simp [upd, f7, f6, str, *]; done)
                    · try simp only [cond_true, cond_false] at f7 f6
                      try simp only [f7, f6, str]
                      have cx := hI.cell (cXv.out)
                      go_wp2
                      refine stm_v rfl Same.refl ?_
                      rw [hM.out]; first | (simp only [upd, reduceIte, Nat.reduceEqDiff, Nat.reduceAdd, List.setIfInBounds_toArray, List.set_cons_succ, List.set_cons_zero, f7, f6, str]; done) | (simp [upd, f7, f6, str, *]; done)
                  · -- operation 9
                    obtain ⟨f6, -⟩ := hp
                    replace f6 : u 6 = (cond i (.bool false) undef) := f6
                    cases i
                    · try simp only [cond_true, cond_false] at f6
                      try simp only [f6, str]
                      go_wp2
                      refine stm_v rfl Same.refl ?_
                      rw [hM.out]; first | (simp only [upd, reduceIte, Nat.reduceEqDiff, Nat.reduceAdd, List.setIfInBounds_toArray, List.set_cons_succ, List.set_cons_zero, f6, str]; done) | (simp [upd, f6, str, *]; done)
                    · try simp only [cond_true, cond_false] at f6
                      try simp only [f6, str]
                      go_wp2
                      refine stm_v rfl Same.refl ?_
                      rw [hM.out]; first | (simp only [upd, reduceIte, Nat.reduceEqDiff, Nat.reduceAdd, List.setIfInBounds_toArray, List.set_cons_succ, List.set_cons_zero, f6, str]; done) | (simp [upd, f6, str, *]; done)
                  · -- operation 10
                    obtain ⟨f9, f6, -⟩ := hp
                    replace f9 : u 9 = (cond i (.pointer (some ⟨bs, 0, none⟩)) undef) := f9
                    replace f6 : u 6 = (cond i (.bool false) undef) := f6
                    cases i
                    · try simp only [cond_true, cond_false] at f9 f6
                      try simp only [f9, f6, str]
                      go_wp2
                      refine stm_v rfl Same.refl ?_
                      rw [hM.out]; first | (simp only [upd, reduceIte, Nat.reduceEqDiff, Nat.reduceAdd, List.setIfInBounds_toArray, List.set_cons_succ, List.set_cons_zero, f9, f6, str]; done) | (simp [upd, f9, f6, str, *]; done)
                    · try simp only [cond_true, cond_false] at f9 f6
                      try simp only [f9, f6, str]
                      have cx := hI.cell (cSv.out)
                      go_wp2
                      refine stm_v rfl Same.refl ?_
                      rw [hM.out]; first | (simp only [upd, reduceIte, Nat.reduceEqDiff, Nat.reduceAdd, List.setIfInBounds_toArray, List.set_cons_succ, List.set_cons_zero, f9, f6, str]; done) | (simp [upd, f9, f6, str, *]; done)
                  · -- operation 11
                    obtain ⟨f8, f10, f6, -⟩ := hp
                    replace f8 : u 8 = (cond i (.int .i64 X.view) undef) := f8
                    replace f10 : u 10 = (cond i (.int .i64 s.view) undef) := f10
                    replace f6 : u 6 = (cond i (.bool false) undef) := f6
                    cases i
                    · try simp only [cond_true, cond_false] at f8 f10 f6
                      try simp only [f8, f10, f6, str]
                      go_wp2
                      refine stm_v rfl Same.refl ?_
                      rw [hM.out]; first | (simp only [upd, reduceIte, Nat.reduceEqDiff, Nat.reduceAdd, List.setIfInBounds_toArray, List.set_cons_succ, List.set_cons_zero, f8, f10, f6, str]; done) | (simp [upd, f8, f10, f6, str, *]; done)
                    · try simp only [cond_true, cond_false] at f8 f10 f6
                      try simp only [f8, f10, f6, str]
                      have gy := (y1.out rfl).2
                      go_wp2
                      refine stm_v rfl Same.refl ?_
                      rw [hM.out]; first | (simp only [upd, reduceIte, Nat.reduceEqDiff, Nat.reduceAdd, List.setIfInBounds_toArray, List.set_cons_succ, List.set_cons_zero, f8, f10, f6, str]; done) | (simp [upd, f8, f10, f6, str, *]; done)
                  · -- operation 12
                    obtain ⟨f6, f11, f2, -⟩ := hp
                    replace f6 : u 6 = (cond i (.bool false) undef) := f6
                    replace f11 : u 11 = (cond i (.bool false) undef) := f11
                    replace f2 : u 2 = (.bool i) := f2
                    cases i
                    · try simp only [cond_true, cond_false] at f6 f11
                      try simp only [f6, f11, f2, str]
                      go_wp2
                      refine stm_v rfl Same.refl ?_
                      rw [hM.out]; first | (simp only [upd, reduceIte, Nat.reduceEqDiff, Nat.reduceAdd, List.setIfInBounds_toArray, List.set_cons_succ, List.set_cons_zero, f6, f11, f2, str]; done) | (simp [upd, f6, f11, f2, str, *]; done)
                    · try simp only [cond_true, cond_false] at f6 f11
                      try simp only [f6, f11, f2, str]
                      go_wp2
                      refine stm_v rfl Same.refl ?_
                      rw [hM.out]; first | (simp only [upd, reduceIte, Nat.reduceEqDiff, Nat.reduceAdd, List.setIfInBounds_toArray, List.set_cons_succ, List.set_cons_zero, f6, f11, f2, str]; done) | (simp [upd, f6, f11, f2, str, *]; done)
                  · -- operation 13
                    obtain ⟨f2, f12, -⟩ := hp
                    replace f2 : u 2 = (.bool i) := f2
                    replace f12 : u 12 = (cond i (.bool false) undef) := f12
                    cases i
                    · try simp only [cond_true, cond_false] at f12
                      try simp only [f2, f12, str]
                      go_wp2
                      refine stm_v rfl Same.refl ?_
                      rw [hM.out]; first | (simp only [upd, reduceIte, Nat.reduceEqDiff, Nat.reduceAdd, List.setIfInBounds_toArray, List.set_cons_succ, List.set_cons_zero, f2, f12, str]; done) | (simp [upd, f2, f12, str, *]; done)
                    · try simp only [cond_true, cond_false] at f12
                      try simp only [f2, f12, str]
                      go_wp2
                      refine stm_v rfl Same.refl ?_
                      rw [hM.out]; first | (simp only [upd, reduceIte, Nat.reduceEqDiff, Nat.reduceAdd, List.setIfInBounds_toArray, List.set_cons_succ, List.set_cons_zero, f2, f12, str]; done) | (simp [upd, f2, f12, str, *]; done)
                  · -- operation 14
                    obtain ⟨f13, -⟩ := hp
                    replace f13 : u 13 = (.bool false) := f13
                    try simp only [f13, str]
                    go_wp2
                    refine stm_v rfl Same.refl ?_
                    rw [hM.out]; first | (simp only [upd, reduceIte, Nat.reduceEqDiff, Nat.reduceAdd, List.setIfInBounds_toArray, List.set_cons_succ, List.set_cons_zero, f13, str]; done) | (simp [upd, f13, str, *]; done)
                  · -- operation 15
                    obtain ⟨f14, -⟩ := hp
                    replace f14 : u 14 = (.bool false) := f14
                    try simp only [f14, str]
                    go_wp2
                    refine stm_v rfl Same.refl ?_
                    rw [hM.out]; first | (simp only [upd, reduceIte, Nat.reduceEqDiff, Nat.reduceAdd, List.setIfInBounds_toArray, List.set_cons_succ, List.set_cons_zero, f14, str]; done) | (simp [upd, f14, str, *]; done)
                  · -- operation 16
                    obtain ⟨f15, f14, -⟩ := hp
                    replace f15 : u 15 = (.pointer (some ⟨bs, 43, none⟩)) := f15
                    replace f14 : u 14 = (.bool false) := f14
                    try simp only [f15, f14, str]
                    have cx := hI.cell (cSh.out)
                    go_wp2
                    refine stm_v rfl Same.refl ?_
                    rw [hM.out]; first | (simp only [upd, reduceIte, Nat.reduceEqDiff, Nat.reduceAdd, List.setIfInBounds_toArray, List.set_cons_succ, List.set_cons_zero, f15, f14, str]; done) | (simp [upd, f15, f14, str, *]; done)
                  · -- operation 17
                    obtain ⟨f16, f14, -⟩ := hp
                    replace f16 : u 16 = (.bool hh) := f16
                    replace f14 : u 14 = (.bool false) := f14
                    try simp only [f16, f14, str]
                    go_wp2
                    refine stm_v rfl Same.refl ?_
                    rw [hM.out]; first | (simp only [upd, reduceIte, Nat.reduceEqDiff, Nat.reduceAdd, List.setIfInBounds_toArray, List.set_cons_succ, List.set_cons_zero, f16, f14, str]; done) | (simp [upd, f16, f14, str, *]; done)
                  · -- operation 18
                    obtain ⟨f17, -⟩ := hp
                    replace f17 : u 17 = (.bool hh) := f17
                    cases hh
                    · try simp only [f17, str]
                      go_wp2
                      refine stm_v rfl Same.refl ?_
                      rw [hM.out]; first | (simp only [upd, reduceIte, Nat.reduceEqDiff, Nat.reduceAdd, List.setIfInBounds_toArray, List.set_cons_succ, List.set_cons_zero, f17, str]; done) | (simp [upd, f17, str, *]; done)
                    · try simp only [f17, str]
                      go_wp2
                      refine stm_v rfl Same.refl ?_
                      rw [hM.out]; first | (simp only [upd, reduceIte, Nat.reduceEqDiff, Nat.reduceAdd, List.setIfInBounds_toArray, List.set_cons_succ, List.set_cons_zero, f17, str]; done) | (simp [upd, f17, str, *]; done)
                  · -- operation 19
                    obtain ⟨f18, f17, -⟩ := hp
                    replace f18 : u 18 = (cond hh (.pointer (some ⟨bx, 43, none⟩)) undef) := f18
                    replace f17 : u 17 = (.bool hh) := f17
                    cases hh
                    · try simp only [cond_true, cond_false] at f18
                      try simp only [f18, f17, str]
                      go_wp2
                      refine stm_v rfl Same.refl ?_
                      rw [hM.out]; first | (simp only [upd, reduceIte, Nat.reduceEqDiff, Nat.reduceAdd, List.setIfInBounds_toArray, List.set_cons_succ, List.set_cons_zero, f18, f17, str]; done) | (simp [upd, f18, f17, str, *]; done)
                    · try simp only [cond_true, cond_false] at f18
                      try simp only [f18, f17, str]
                      have cx := hI.cell cXh.out
                      rw [(y2.out rfl).1] at cx
                      go_wp2
                      refine stm_v rfl Same.refl ?_
                      rw [hM.out]; first | (simp only [upd, reduceIte, Nat.reduceEqDiff, Nat.reduceAdd, List.setIfInBounds_toArray, List.set_cons_succ, List.set_cons_zero, f18, f17, str]; done) | (simp [upd, f18, f17, str, *]; done)
                  · -- operation 20
                    obtain ⟨f19, f17, -⟩ := hp
                    replace f19 : u 19 = (cond hh (.bool true) undef) := f19
                    replace f17 : u 17 = (.bool hh) := f17
                    cases hh
                    · try simp only [cond_true, cond_false] at f19
                      try simp only [f19, f17, str]
                      go_wp2
                      refine stm_v rfl Same.refl ?_
                      rw [hM.out]; first | (simp only [upd, reduceIte, Nat.reduceEqDiff, Nat.reduceAdd, List.setIfInBounds_toArray, List.set_cons_succ, List.set_cons_zero, f19, f17, str]; done) | (simp [upd, f19, f17, str, *]; done)
                    · try simp only [cond_true, cond_false] at f19
                      try simp only [f19, f17, str]
                      go_wp2
                      refine stm_v rfl Same.refl ?_
                      rw [hM.out]; first | (simp only [upd, reduceIte, Nat.reduceEqDiff, Nat.reduceAdd, List.setIfInBounds_toArray, List.set_cons_succ, List.set_cons_zero, f19, f17, str]; done) | (simp [upd, f19, f17, str, *]; done)
                  · -- operation 21
                    obtain ⟨f20, f17, -⟩ := hp
                    replace f20 : u 20 = (cond hh (.bool false) undef) := f20
                    replace f17 : u 17 = (.bool hh) := f17
                    cases hh
                    · try simp only [cond_true, cond_false] at f20
                      try simp only [f20, f17, str]
                      go_wp2
                      refine stm_v rfl Same.refl ?_
                      rw [hM.out]; first | (simp only [upd, reduceIte, Nat.reduceEqDiff, Nat.reduceAdd, List.setIfInBounds_toArray, List.set_cons_succ, List.set_cons_zero, f20, f17, str]; done) | (simp [upd, f20, f17, str, *]; done)
                    · try simp only [cond_true, cond_false] at f20
                      try simp only [f20, f17, str]
                      go_wp2
                      refine stm_v rfl Same.refl ?_
                      rw [hM.out]; first | (simp only [upd, reduceIte, Nat.reduceEqDiff, Nat.reduceAdd, List.setIfInBounds_toArray, List.set_cons_succ, List.set_cons_zero, f20, f17, str]; done) | (simp [upd, f20, f17, str, *]; done)
                  · -- operation 22
                    obtain ⟨f21, -⟩ := hp
                    replace f21 : u 21 = (cond hh (.bool false) undef) := f21
                    cases hh
                    · try simp only [cond_true, cond_false] at f21
                      try simp only [f21, str]
                      go_wp2
                      refine stm_v rfl Same.refl ?_
                      rw [hM.out]; first | (simp only [upd, reduceIte, Nat.reduceEqDiff, Nat.reduceAdd, List.setIfInBounds_toArray, List.set_cons_succ, List.set_cons_zero, f21, str]; done) | (simp [upd, f21, str, *]; done)
                    · try simp only [cond_true, cond_false] at f21
                      try simp only [f21, str]
                      go_wp2
                      refine stm_v rfl Same.refl ?_
                      rw [hM.out]; first | (simp only [upd, reduceIte, Nat.reduceEqDiff, Nat.reduceAdd, List.setIfInBounds_toArray, List.set_cons_succ, List.set_cons_zero, f21, str]; done) | (simp [upd, f21, str, *]; done)
                  · -- operation 23
                    obtain ⟨f22, f21, -⟩ := hp
                    replace f22 : u 22 = (cond hh (.pointer (some ⟨bx, 4, none⟩)) undef) := f22
                    replace f21 : u 21 = (cond hh (.bool false) undef) := f21
                    cases hh
                    · try simp only [cond_true, cond_false] at f22 f21
                      try simp only [f22, f21, str]
                      go_wp2
                      refine stm_v rfl Same.refl ?_
                      rw [hM.out]; first | (simp only [upd, reduceIte, Nat.reduceEqDiff, Nat.reduceAdd, List.setIfInBounds_toArray, List.set_cons_succ, List.set_cons_zero, f22, f21, str]; done) | (simp [upd, f22, f21, str, *]; done)
                    · try simp only [cond_true, cond_false] at f22 f21
                      try simp only [f22, f21, str]
                      go_wp2
                      refine stm_v rfl Same.refl ?_
                      rw [hM.out]; first | (simp only [upd, reduceIte, Nat.reduceEqDiff, Nat.reduceAdd, List.setIfInBounds_toArray, List.set_cons_succ, List.set_cons_zero, f22, f21, str]; done) | (simp [upd, f22, f21, str, *]; done)
                  · -- operation 24
                    obtain ⟨f23, f21, -⟩ := hp
                    replace f23 : u 23 = (cond hh (.pointer (some ⟨bx, 6, none⟩)) undef) := f23
                    replace f21 : u 21 = (cond hh (.bool false) undef) := f21
                    cases hh
                    · try simp only [cond_true, cond_false] at f23 f21
                      try simp only [f23, f21, str]
                      go_wp2
                      refine stm_v rfl Same.refl ?_
                      rw [hM.out]; first | (simp only [upd, reduceIte, Nat.reduceEqDiff, Nat.reduceAdd, List.setIfInBounds_toArray, List.set_cons_succ, List.set_cons_zero, f23, f21, str]; done) | (simp [upd, f23, f21, str, *]; done)
                    · try simp only [cond_true, cond_false] at f23 f21
                      try simp only [f23, f21, str]
                      go_wp2
                      refine stm_v rfl Same.refl ?_
                      rw [hM.out]; first | (simp only [upd, reduceIte, Nat.reduceEqDiff, Nat.reduceAdd, List.setIfInBounds_toArray, List.set_cons_succ, List.set_cons_zero, f23, f21, str]; done) | (simp [upd, f23, f21, str, *]; done)
                  · -- operation 25
                    obtain ⟨f24, f21, -⟩ := hp
                    replace f24 : u 24 = (cond hh (.pointer (some ⟨bx, 6, none⟩)) undef) := f24
                    replace f21 : u 21 = (cond hh (.bool false) undef) := f21
                    cases hh
                    · try simp only [cond_true, cond_false] at f24 f21
                      try simp only [f24, f21, str]
                      go_wp2
                      refine stm_v rfl Same.refl ?_
                      rw [hM.out]; first | (simp only [upd, reduceIte, Nat.reduceEqDiff, Nat.reduceAdd, List.setIfInBounds_toArray, List.set_cons_succ, List.set_cons_zero, f24, f21, str]; done) | (simp [upd, f24, f21, str, *]; done)
                    · try simp only [cond_true, cond_false] at f24 f21
                      try simp only [f24, f21, str]
                      go_wp2
                      refine stm_v rfl Same.refl ?_
                      rw [hM.out]; first | (simp only [upd, reduceIte, Nat.reduceEqDiff, Nat.reduceAdd, List.setIfInBounds_toArray, List.set_cons_succ, List.set_cons_zero, f24, f21, str]; done) | (simp [upd, f24, f21, str, *]; done)
                  · -- operation 26
                    obtain ⟨f25, f21, -⟩ := hp
                    replace f25 : u 25 = (cond hh (.pointer (some ⟨bx, 8, none⟩)) undef) := f25
                    replace f21 : u 21 = (cond hh (.bool false) undef) := f21
                    cases hh
                    · try simp only [cond_true, cond_false] at f25 f21
                      try simp only [f25, f21, str]
                      go_wp2
                      refine stm_v rfl Same.refl ?_
                      rw [hM.out]; first | (simp only [upd, reduceIte, Nat.reduceEqDiff, Nat.reduceAdd, List.setIfInBounds_toArray, List.set_cons_succ, List.set_cons_zero, f25, f21, str]; done) | (simp [upd, f25, f21, str, *]; done)
                    · try simp only [cond_true, cond_false] at f25 f21
                      try simp only [f25, f21, str]
                      have cx := hI.cell (cXw.out)
                      go_wp2
                      refine stm_v rfl Same.refl ?_
                      rw [hM.out]; first | (simp only [upd, reduceIte, Nat.reduceEqDiff, Nat.reduceAdd, List.setIfInBounds_toArray, List.set_cons_succ, List.set_cons_zero, f25, f21, str]; done) | (simp [upd, f25, f21, str, *]; done)
                  · -- operation 27
                    obtain ⟨f21, -⟩ := hp
                    replace f21 : u 21 = (cond hh (.bool false) undef) := f21
                    cases hh
                    · try simp only [cond_true, cond_false] at f21
                      try simp only [f21, str]
                      go_wp2
                      refine stm_v rfl Same.refl ?_
                      rw [hM.out]; first | (simp only [upd, reduceIte, Nat.reduceEqDiff, Nat.reduceAdd, List.setIfInBounds_toArray, List.set_cons_succ, List.set_cons_zero, f21, str]; done) | (simp [upd, f21, str, *]; done)
                    · try simp only [cond_true, cond_false] at f21
                      try simp only [f21, str]
                      go_wp2
                      refine stm_v rfl Same.refl ?_
                      rw [hM.out]; first | (simp only [upd, reduceIte, Nat.reduceEqDiff, Nat.reduceAdd, List.setIfInBounds_toArray, List.set_cons_succ, List.set_cons_zero, f21, str]; done) | (simp [upd, f21, str, *]; done)
                  · -- operation 28
                    obtain ⟨f27, f21, -⟩ := hp
                    replace f27 : u 27 = (cond hh (.pointer (some ⟨bs, 4, none⟩)) undef) := f27
                    replace f21 : u 21 = (cond hh (.bool false) undef) := f21
                    cases hh
                    · try simp only [cond_true, cond_false] at f27 f21
                      try simp only [f27, f21, str]
                      go_wp2
                      refine stm_v rfl Same.refl ?_
                      rw [hM.out]; first | (simp only [upd, reduceIte, Nat.reduceEqDiff, Nat.reduceAdd, List.setIfInBounds_toArray, List.set_cons_succ, List.set_cons_zero, f27, f21, str]; done) | (simp [upd, f27, f21, str, *]; done)
                    · try simp only [cond_true, cond_false] at f27 f21
                      try simp only [f27, f21, str]
                      go_wp2
                      refine stm_v rfl Same.refl ?_
                      rw [hM.out]; first | (simp only [upd, reduceIte, Nat.reduceEqDiff, Nat.reduceAdd, List.setIfInBounds_toArray, List.set_cons_succ, List.set_cons_zero, f27, f21, str]; done) | (simp [upd, f27, f21, str, *]; done)
                  · -- operation 29
                    obtain ⟨f28, f21, -⟩ := hp
                    replace f28 : u 28 = (cond hh (.pointer (some ⟨bs, 6, none⟩)) undef) := f28
                    replace f21 : u 21 = (cond hh (.bool false) undef) := f21
                    cases hh
                    · try simp only [cond_true, cond_false] at f28 f21
                      try simp only [f28, f21, str]
                      go_wp2
                      refine stm_v rfl Same.refl ?_
                      rw [hM.out]; first | (simp only [upd, reduceIte, Nat.reduceEqDiff, Nat.reduceAdd, List.setIfInBounds_toArray, List.set_cons_succ, List.set_cons_zero, f28, f21, str]; done) | (simp [upd, f28, f21, str, *]; done)
                    · try simp only [cond_true, cond_false] at f28 f21
                      try simp only [f28, f21, str]
                      go_wp2
                      refine stm_v rfl Same.refl ?_
                      rw [hM.out]; first | (simp only [upd, reduceIte, Nat.reduceEqDiff, Nat.reduceAdd, List.setIfInBounds_toArray, List.set_cons_succ, List.set_cons_zero, f28, f21, str]; done) | (simp [upd, f28, f21, str, *]; done)
                  · -- operation 30
                    obtain ⟨f29, f21, -⟩ := hp
                    replace f29 : u 29 = (cond hh (.pointer (some ⟨bs, 6, none⟩)) undef) := f29
                    replace f21 : u 21 = (cond hh (.bool false) undef) := f21
                    cases hh
                    · try simp only [cond_true, cond_false] at f29 f21
                      try simp only [f29, f21, str]
                      go_wp2
                      refine stm_v rfl Same.refl ?_
                      rw [hM.out]; first | (simp only [upd, reduceIte, Nat.reduceEqDiff, Nat.reduceAdd, List.setIfInBounds_toArray, List.set_cons_succ, List.set_cons_zero, f29, f21, str]; done) | (simp [upd, f29, f21, str, *]; done)
                    · try simp only [cond_true, cond_false] at f29 f21
                      try simp only [f29, f21, str]
                      go_wp2
                      refine stm_v rfl Same.refl ?_
                      rw [hM.out]; first | (simp only [upd, reduceIte, Nat.reduceEqDiff, Nat.reduceAdd, List.setIfInBounds_toArray, List.set_cons_succ, List.set_cons_zero, f29, f21, str]; done) | (simp [upd, f29, f21, str, *]; done)
                  · -- operation 31
                    obtain ⟨f30, f21, -⟩ := hp
                    replace f30 : u 30 = (cond hh (.pointer (some ⟨bs, 8, none⟩)) undef) := f30
                    replace f21 : u 21 = (cond hh (.bool false) undef) := f21
                    cases hh
                    · try simp only [cond_true, cond_false] at f30 f21
                      try simp only [f30, f21, str]
                      go_wp2
                      refine stm_v rfl Same.refl ?_
                      rw [hM.out]; first | (simp only [upd, reduceIte, Nat.reduceEqDiff, Nat.reduceAdd, List.setIfInBounds_toArray, List.set_cons_succ, List.set_cons_zero, f30, f21, str]; done) | (simp [upd, f30, f21, str, *]; done)
                    · try simp only [cond_true, cond_false] at f30 f21
                      try simp only [f30, f21, str]
                      have cx := hI.cell (cSw.out)
                      go_wp2
                      refine stm_v rfl Same.refl ?_
                      rw [hM.out]; first | (simp only [upd, reduceIte, Nat.reduceEqDiff, Nat.reduceAdd, List.setIfInBounds_toArray, List.set_cons_succ, List.set_cons_zero, f30, f21, str]; done) | (simp [upd, f30, f21, str, *]; done)
                  · -- operation 32
                    obtain ⟨f26, f31, f21, -⟩ := hp
                    replace f26 : u 26 = (cond hh (.int .i64 X.hcert.vote.view) undef) := f26
                    replace f31 : u 31 = (cond hh (.int .i64 s.hcert.vote.view) undef) := f31
                    replace f21 : u 21 = (cond hh (.bool false) undef) := f21
                    cases hh
                    · try simp only [cond_true, cond_false] at f26 f31 f21
                      try simp only [f26, f31, f21, str]
                      go_wp2
                      refine stm_v rfl Same.refl ?_
                      rw [hM.out]; first | (simp only [upd, reduceIte, Nat.reduceEqDiff, Nat.reduceAdd, List.setIfInBounds_toArray, List.set_cons_succ, List.set_cons_zero, f26, f31, f21, str]; done) | (simp [upd, f26, f31, f21, str, *]; done)
                    · try simp only [cond_true, cond_false] at f26 f31 f21
                      try simp only [f26, f31, f21, str]
                      have gy := (y2.out rfl).2
                      go_wp2
                      refine stm_v rfl Same.refl ?_
                      rw [hM.out]; first | (simp only [upd, reduceIte, Nat.reduceEqDiff, Nat.reduceAdd, List.setIfInBounds_toArray, List.set_cons_succ, List.set_cons_zero, f26, f31, f21, str]; done) | (simp [upd, f26, f31, f21, str, *]; done)
                  · -- operation 33
                    obtain ⟨f21, f32, f17, -⟩ := hp
                    replace f21 : u 21 = (cond hh (.bool false) undef) := f21
                    replace f32 : u 32 = (cond hh (.bool false) undef) := f32
                    replace f17 : u 17 = (.bool hh) := f17
                    cases hh
                    · try simp only [cond_true, cond_false] at f21 f32
                      try simp only [f21, f32, f17, str]
                      go_wp2
                      refine stm_v rfl Same.refl ?_
                      rw [hM.out]; first | (simp only [upd, reduceIte, Nat.reduceEqDiff, Nat.reduceAdd, List.setIfInBounds_toArray, List.set_cons_succ, List.set_cons_zero, f21, f32, f17, str]; done) | (simp [upd, f21, f32, f17, str, *]; done)
                    · try simp only [cond_true, cond_false] at f21 f32
                      try simp only [f21, f32, f17, str]
                      go_wp2
                      refine stm_v rfl Same.refl ?_
                      rw [hM.out]; first | (simp only [upd, reduceIte, Nat.reduceEqDiff, Nat.reduceAdd, List.setIfInBounds_toArray, List.set_cons_succ, List.set_cons_zero, f21, f32, f17, str]; done) | (simp [upd, f21, f32, f17, str, *]; done)
                  · -- operation 34
                    obtain ⟨f17, f33, f14, -⟩ := hp
                    replace f17 : u 17 = (.bool hh) := f17
                    replace f33 : u 33 = (cond hh (.bool false) undef) := f33
                    replace f14 : u 14 = (.bool false) := f14
                    cases hh
                    · try simp only [cond_true, cond_false] at f33
                      try simp only [f17, f33, f14, str]
                      go_wp2
                      refine stm_v rfl Same.refl ?_
                      rw [hM.out]; first | (simp only [upd, reduceIte, Nat.reduceEqDiff, Nat.reduceAdd, List.setIfInBounds_toArray, List.set_cons_succ, List.set_cons_zero, f17, f33, f14, str]; done) | (simp [upd, f17, f33, f14, str, *]; done)
                    · try simp only [cond_true, cond_false] at f33
                      try simp only [f17, f33, f14, str]
                      go_wp2
                      refine stm_v rfl Same.refl ?_
                      rw [hM.out]; first | (simp only [upd, reduceIte, Nat.reduceEqDiff, Nat.reduceAdd, List.setIfInBounds_toArray, List.set_cons_succ, List.set_cons_zero, f17, f33, f14, str]; done) | (simp [upd, f17, f33, f14, str, *]; done)
                  · -- operation 35
                    obtain ⟨f14, f34, -⟩ := hp
                    replace f14 : u 14 = (.bool false) := f14
                    replace f34 : u 34 = (.bool false) := f34
                    try simp only [f14, f34, str]
                    go_wp2
                    refine stm_v rfl Same.refl ?_
                    rw [hM.out]; first | (simp only [upd, reduceIte, Nat.reduceEqDiff, Nat.reduceAdd, List.setIfInBounds_toArray, List.set_cons_succ, List.set_cons_zero, f14, f34, str]; done) | (simp [upd, f14, f34, str, *]; done)
                  · -- operation 36
                    obtain ⟨f35, -⟩ := hp
                    replace f35 : u 35 = (.bool false) := f35
                    try simp only [f35, str]
                    go_wp2
                    refine stm_v rfl Same.refl ?_
                    rw [hM.out]; first | (simp only [upd, reduceIte, Nat.reduceEqDiff, Nat.reduceAdd, List.setIfInBounds_toArray, List.set_cons_succ, List.set_cons_zero, f35, str]; done) | (simp [upd, f35, str, *]; done)
                  · -- operation 37
                    obtain ⟨f36, -⟩ := hp
                    replace f36 : u 36 = (.bool false) := f36
                    try simp only [f36, str]
                    go_wp2
                    refine stm_v rfl Same.refl ?_
                    rw [hM.out]; first | (simp only [upd, reduceIte, Nat.reduceEqDiff, Nat.reduceAdd, List.setIfInBounds_toArray, List.set_cons_succ, List.set_cons_zero, f36, str]; done) | (simp [upd, f36, str, *]; done)
                  · -- operation 38
                    obtain ⟨f37, f36, -⟩ := hp
                    replace f37 : u 37 = (.pointer (some ⟨bs, 84, none⟩)) := f37
                    replace f36 : u 36 = (.bool false) := f36
                    try simp only [f37, f36, str]
                    have cx := hI.cell (cSd.out)
                    go_wp2
                    refine stm_v rfl Same.refl ?_
                    rw [hM.out]; first | (simp only [upd, reduceIte, Nat.reduceEqDiff, Nat.reduceAdd, List.setIfInBounds_toArray, List.set_cons_succ, List.set_cons_zero, f37, f36, str]; done) | (simp [upd, f37, f36, str, *]; done)
                  · -- operation 39
                    obtain ⟨f38, f36, -⟩ := hp
                    replace f38 : u 38 = (.bool dd) := f38
                    replace f36 : u 36 = (.bool false) := f36
                    try simp only [f38, f36, str]
                    go_wp2
                    refine stm_v rfl Same.refl ?_
                    rw [hM.out]; first | (simp only [upd, reduceIte, Nat.reduceEqDiff, Nat.reduceAdd, List.setIfInBounds_toArray, List.set_cons_succ, List.set_cons_zero, f38, f36, str]; done) | (simp [upd, f38, f36, str, *]; done)
                  · -- operation 40
                    obtain ⟨f39, -⟩ := hp
                    replace f39 : u 39 = (.bool dd) := f39
                    cases dd
                    · try simp only [f39, str]
                      go_wp2
                      refine stm_v rfl Same.refl ?_
                      rw [hM.out]; first | (simp only [upd, reduceIte, Nat.reduceEqDiff, Nat.reduceAdd, List.setIfInBounds_toArray, List.set_cons_succ, List.set_cons_zero, f39, str]; done) | (simp [upd, f39, str, *]; done)
                    · try simp only [f39, str]
                      go_wp2
                      refine stm_v rfl Same.refl ?_
                      rw [hM.out]; first | (simp only [upd, reduceIte, Nat.reduceEqDiff, Nat.reduceAdd, List.setIfInBounds_toArray, List.set_cons_succ, List.set_cons_zero, f39, str]; done) | (simp [upd, f39, str, *]; done)
                  · -- operation 41
                    obtain ⟨f40, f39, -⟩ := hp
                    replace f40 : u 40 = (cond dd (.pointer (some ⟨bx, 84, none⟩)) undef) := f40
                    replace f39 : u 39 = (.bool dd) := f39
                    cases dd
                    · try simp only [cond_true, cond_false] at f40
                      try simp only [f40, f39, str]
                      go_wp2
                      refine stm_v rfl Same.refl ?_
                      rw [hM.out]; first | (simp only [upd, reduceIte, Nat.reduceEqDiff, Nat.reduceAdd, List.setIfInBounds_toArray, List.set_cons_succ, List.set_cons_zero, f40, f39, str]; done) | (simp [upd, f40, f39, str, *]; done)
                    · try simp only [cond_true, cond_false] at f40
                      try simp only [f40, f39, str]
                      have cx := hI.cell cXd.out
                      rw [y3.out rfl] at cx
                      go_wp2
                      refine stm_v rfl Same.refl ?_
                      rw [hM.out]; first | (simp only [upd, reduceIte, Nat.reduceEqDiff, Nat.reduceAdd, List.setIfInBounds_toArray, List.set_cons_succ, List.set_cons_zero, f40, f39, str]; done) | (simp [upd, f40, f39, str, *]; done)
                  · -- operation 42
                    obtain ⟨f41, f39, -⟩ := hp
                    replace f41 : u 41 = (cond dd (.bool true) undef) := f41
                    replace f39 : u 39 = (.bool dd) := f39
                    cases dd
                    · try simp only [cond_true, cond_false] at f41
                      try simp only [f41, f39, str]
                      go_wp2
                      refine stm_v rfl Same.refl ?_
                      rw [hM.out]; first | (simp only [upd, reduceIte, Nat.reduceEqDiff, Nat.reduceAdd, List.setIfInBounds_toArray, List.set_cons_succ, List.set_cons_zero, f41, f39, str]; done) | (simp [upd, f41, f39, str, *]; done)
                    · try simp only [cond_true, cond_false] at f41
                      try simp only [f41, f39, str]
                      go_wp2
                      refine stm_v rfl Same.refl ?_
                      rw [hM.out]; first | (simp only [upd, reduceIte, Nat.reduceEqDiff, Nat.reduceAdd, List.setIfInBounds_toArray, List.set_cons_succ, List.set_cons_zero, f41, f39, str]; done) | (simp [upd, f41, f39, str, *]; done)
                  · -- operation 43
                    obtain ⟨f42, f39, -⟩ := hp
                    replace f42 : u 42 = (cond dd (.bool false) undef) := f42
                    replace f39 : u 39 = (.bool dd) := f39
                    cases dd
                    · try simp only [cond_true, cond_false] at f42
                      try simp only [f42, f39, str]
                      go_wp2
                      refine stm_v rfl Same.refl ?_
                      rw [hM.out]; first | (simp only [upd, reduceIte, Nat.reduceEqDiff, Nat.reduceAdd, List.setIfInBounds_toArray, List.set_cons_succ, List.set_cons_zero, f42, f39, str]; done) | (simp [upd, f42, f39, str, *]; done)
                    · try simp only [cond_true, cond_false] at f42
                      try simp only [f42, f39, str]
                      go_wp2
                      refine stm_v rfl Same.refl ?_
                      rw [hM.out]; first | (simp only [upd, reduceIte, Nat.reduceEqDiff, Nat.reduceAdd, List.setIfInBounds_toArray, List.set_cons_succ, List.set_cons_zero, f42, f39, str]; done) | (simp [upd, f42, f39, str, *]; done)
                  · -- operation 44
                    obtain ⟨f43, -⟩ := hp
                    replace f43 : u 43 = (cond dd (.bool false) undef) := f43
                    cases dd
                    · try simp only [cond_true, cond_false] at f43
                      try simp only [f43, str]
                      go_wp2
                      refine stm_v rfl Same.refl ?_
                      rw [hM.out]; first | (simp only [upd, reduceIte, Nat.reduceEqDiff, Nat.reduceAdd, List.setIfInBounds_toArray, List.set_cons_succ, List.set_cons_zero, f43, str]; done) | (simp [upd, f43, str, *]; done)
                    · try simp only [cond_true, cond_false] at f43
                      try simp only [f43, str]
                      go_wp2
                      refine stm_v rfl Same.refl ?_
                      rw [hM.out]; first | (simp only [upd, reduceIte, Nat.reduceEqDiff, Nat.reduceAdd, List.setIfInBounds_toArray, List.set_cons_succ, List.set_cons_zero, f43, str]; done) | (simp [upd, f43, str, *]; done)
                  · -- operation 45
                    obtain ⟨f44, f43, -⟩ := hp
                    replace f44 : u 44 = (cond dd (.pointer (some ⟨bx, 44, none⟩)) undef) := f44
                    replace f43 : u 43 = (cond dd (.bool false) undef) := f43
                    cases dd
                    · try simp only [cond_true, cond_false] at f44 f43
                      try simp only [f44, f43, str]
                      go_wp2
                      refine stm_v rfl Same.refl ?_
                      rw [hM.out]; first | (simp only [upd, reduceIte, Nat.reduceEqDiff, Nat.reduceAdd, List.setIfInBounds_toArray, List.set_cons_succ, List.set_cons_zero, f44, f43, str]; done) | (simp [upd, f44, f43, str, *]; done)
                    · try simp only [cond_true, cond_false] at f44 f43
                      try simp only [f44, f43, str]
                      go_wp2_with (refine load_mid rfl _ _ rfl bx 44 rfl (entCells X.eslot X.ebat X.ecert) _ (hI.range pX.out) Try.underlying40 rfl iE.out ?_)
                      refine stm_v rfl Same.refl ?_
                      rw [hM.out]; first | (simp only [upd, reduceIte, Nat.reduceEqDiff, Nat.reduceAdd, List.setIfInBounds_toArray, List.set_cons_succ, List.set_cons_zero, f44, f43, str]; done) | (simp [upd, f44, f43, str, *]; done)
                  · -- operation 46
                    obtain ⟨f43, -⟩ := hp
                    replace f43 : u 43 = (cond dd (.bool false) undef) := f43
                    cases dd
                    · try simp only [cond_true, cond_false] at f43
                      try simp only [f43, str]
                      go_wp2
                      refine stm_v rfl Same.refl ?_
                      rw [hM.out]; first | (simp only [upd, reduceIte, Nat.reduceEqDiff, Nat.reduceAdd, List.setIfInBounds_toArray, List.set_cons_succ, List.set_cons_zero, f43, str]; done) | (simp [upd, f43, str, *]; done)
                    · try simp only [cond_true, cond_false] at f43
                      try simp only [f43, str]
                      go_wp2
                      refine stm_v rfl Same.refl ?_
                      rw [hM.out]; first | (simp only [upd, reduceIte, Nat.reduceEqDiff, Nat.reduceAdd, List.setIfInBounds_toArray, List.set_cons_succ, List.set_cons_zero, f43, str]; done) | (simp [upd, f43, str, *]; done)
                  · -- operation 47
                    obtain ⟨f46, f43, -⟩ := hp
                    replace f46 : u 46 = (cond dd (.pointer (some ⟨bs, 44, none⟩)) undef) := f46
                    replace f43 : u 43 = (cond dd (.bool false) undef) := f43
                    cases dd
                    · try simp only [cond_true, cond_false] at f46 f43
                      try simp only [f46, f43, str]
                      go_wp2
                      refine stm_v rfl Same.refl ?_
                      rw [hM.out]; first | (simp only [upd, reduceIte, Nat.reduceEqDiff, Nat.reduceAdd, List.setIfInBounds_toArray, List.set_cons_succ, List.set_cons_zero, f46, f43, str]; done) | (simp [upd, f46, f43, str, *]; done)
                    · try simp only [cond_true, cond_false] at f46 f43
                      try simp only [f46, f43, str]
                      go_wp2_with (refine load_mid rfl _ _ rfl bs 44 rfl (entCells s.eslot s.ebat s.ecert) _ (hI.range pS.out) Try.underlying40 rfl iE'.out ?_)
                      refine stm_v rfl Same.refl ?_
                      rw [hM.out]; first | (simp only [upd, reduceIte, Nat.reduceEqDiff, Nat.reduceAdd, List.setIfInBounds_toArray, List.set_cons_succ, List.set_cons_zero, f46, f43, str]; done) | (simp [upd, f46, f43, str, *]; done)
                  · -- operation 48
                    obtain ⟨f45, f47, f43, -⟩ := hp
                    replace f45 : u 45 = (cond dd (.agg (entCells X.eslot X.ebat X.ecert).toArray) undef) := f45
                    replace f47 : u 47 = (cond dd (.agg (entCells s.eslot s.ebat s.ecert).toArray) undef) := f47
                    replace f43 : u 43 = (cond dd (.bool false) undef) := f43
                    cases dd
                    · try simp only [cond_true, cond_false] at f45 f47 f43
                      try simp only [f45, f47, f43, str]
                      go_wp2
                      refine stm_v rfl Same.refl ?_
                      rw [hM.out]; first | (simp only [upd, reduceIte, Nat.reduceEqDiff, Nat.reduceAdd, List.setIfInBounds_toArray, List.set_cons_succ, List.set_cons_zero, f45, f47, f43, str]; done) | (simp [upd, f45, f47, f43, str, *]; done)
                    · try simp only [cond_true, cond_false] at f45 f47 f43
                      try simp only [f45, f47, f43, str]
                      go_wp2_with fail
                      refine (y4.out (by trivial) _ (hWm.out.trans hI)).mono ?_
                      rintro e w1 ⟨rfl, hs'⟩
                      go_wp2
                      refine stm_v rfl hs' ?_
                      rw [hM.out]; first | (simp only [upd, reduceIte, Nat.reduceEqDiff, Nat.reduceAdd, List.setIfInBounds_toArray, List.set_cons_succ, List.set_cons_zero, f45, f47, f43, str]; done) | (simp [upd, f45, f47, f43, str, *]; done)
                  · -- operation 49
                    obtain ⟨f48, f43, -⟩ := hp
                    replace f48 : u 48 = (cond dd (.bool true) undef) := f48
                    replace f43 : u 43 = (cond dd (.bool false) undef) := f43
                    cases dd
                    · try simp only [cond_true, cond_false] at f48 f43
                      try simp only [f48, f43, str]
                      go_wp2
                      refine stm_v rfl Same.refl ?_
                      rw [hM.out]; first | (simp only [upd, reduceIte, Nat.reduceEqDiff, Nat.reduceAdd, List.setIfInBounds_toArray, List.set_cons_succ, List.set_cons_zero, f48, f43, str]; done) | (simp [upd, f48, f43, str, *]; done)
                    · try simp only [cond_true, cond_false] at f48 f43
                      try simp only [f48, f43, str]
                      go_wp2
                      refine stm_v rfl Same.refl ?_
                      rw [hM.out]; first | (simp only [upd, reduceIte, Nat.reduceEqDiff, Nat.reduceAdd, List.setIfInBounds_toArray, List.set_cons_succ, List.set_cons_zero, f48, f43, str]; done) | (simp [upd, f48, f43, str, *]; done)
                  · -- operation 50
                    obtain ⟨f43, f49, f39, -⟩ := hp
                    replace f43 : u 43 = (cond dd (.bool false) undef) := f43
                    replace f49 : u 49 = (cond dd (.bool false) undef) := f49
                    replace f39 : u 39 = (.bool dd) := f39
                    cases dd
                    · try simp only [cond_true, cond_false] at f43 f49
                      try simp only [f43, f49, f39, str]
                      go_wp2
                      refine stm_v rfl Same.refl ?_
                      rw [hM.out]; first | (simp only [upd, reduceIte, Nat.reduceEqDiff, Nat.reduceAdd, List.setIfInBounds_toArray, List.set_cons_succ, List.set_cons_zero, f43, f49, f39, str]; done) | (simp [upd, f43, f49, f39, str, *]; done)
                    · try simp only [cond_true, cond_false] at f43 f49
                      try simp only [f43, f49, f39, str]
                      go_wp2
                      refine stm_v rfl Same.refl ?_
                      rw [hM.out]; first | (simp only [upd, reduceIte, Nat.reduceEqDiff, Nat.reduceAdd, List.setIfInBounds_toArray, List.set_cons_succ, List.set_cons_zero, f43, f49, f39, str]; done) | (simp [upd, f43, f49, f39, str, *]; done)
                  · -- operation 51
                    obtain ⟨f39, f50, f36, -⟩ := hp
                    replace f39 : u 39 = (.bool dd) := f39
                    replace f50 : u 50 = (cond dd (.bool false) undef) := f50
                    replace f36 : u 36 = (.bool false) := f36
                    cases dd
                    · try simp only [cond_true, cond_false] at f50
                      try simp only [f39, f50, f36, str]
                      go_wp2
                      refine stm_v rfl Same.refl ?_
                      rw [hM.out]; first | (simp only [upd, reduceIte, Nat.reduceEqDiff, Nat.reduceAdd, List.setIfInBounds_toArray, List.set_cons_succ, List.set_cons_zero, f39, f50, f36, str]; done) | (simp [upd, f39, f50, f36, str, *]; done)
                    · try simp only [cond_true, cond_false] at f50
                      try simp only [f39, f50, f36, str]
                      go_wp2
                      refine stm_v rfl Same.refl ?_
                      rw [hM.out]; first | (simp only [upd, reduceIte, Nat.reduceEqDiff, Nat.reduceAdd, List.setIfInBounds_toArray, List.set_cons_succ, List.set_cons_zero, f39, f50, f36, str]; done) | (simp [upd, f39, f50, f36, str, *]; done)
                  · -- operation 52
                    obtain ⟨f36, f51, -⟩ := hp
                    replace f36 : u 36 = (.bool false) := f36
                    replace f51 : u 51 = (.bool false) := f51
                    try simp only [f36, f51, str]
                    go_wp2
                    refine stm_v rfl Same.refl ?_
                    rw [hM.out]; first | (simp only [upd, reduceIte, Nat.reduceEqDiff, Nat.reduceAdd, List.setIfInBounds_toArray, List.set_cons_succ, List.set_cons_zero, f36, f51, str]; done) | (simp [upd, f36, f51, str, *]; done)
                · intro M hM
                  try dsimp only at hM
                  intro u wx hI hR
                  obtain ⟨r0, r1, r2, r3, r4, r5, r6, r7, r8, r9, r10, r11, r12, r13, r14, r15, r16, r17, r18, r19, r20, r21, r22, r23, r24, r25, r26, r27, r28, r29, r30, r31, r32, r33, r34, r35, r36, r37, r38, r39, r40, r41, r42, r43, r44, r45, r46, r47, r48, r49, r50, r51, r52, -⟩ := hR
                  replace r0 : u 0 = (.pointer (some ⟨bs, 3, none⟩)) := r0
                  replace r1 : u 1 = (.bool i) := r1
                  replace r2 : u 2 = (.bool i) := r2
                  replace r3 : u 3 = (cond i (.pointer (some ⟨bx, 3, none⟩)) undef) := r3
                  replace r4 : u 4 = (cond i (.bool true) undef) := r4
                  replace r5 : u 5 = (cond i (.bool false) undef) := r5
                  replace r6 : u 6 = (cond i (.bool false) undef) := r6
                  replace r7 : u 7 = (cond i (.pointer (some ⟨bx, 0, none⟩)) undef) := r7
                  replace r8 : u 8 = (cond i (.int .i64 X.view) undef) := r8
                  replace r9 : u 9 = (cond i (.pointer (some ⟨bs, 0, none⟩)) undef) := r9
                  replace r10 : u 10 = (cond i (.int .i64 s.view) undef) := r10
                  replace r11 : u 11 = (cond i (.bool false) undef) := r11
                  replace r12 : u 12 = (cond i (.bool false) undef) := r12
                  replace r13 : u 13 = (.bool false) := r13
                  replace r14 : u 14 = (.bool false) := r14
                  replace r15 : u 15 = (.pointer (some ⟨bs, 43, none⟩)) := r15
                  replace r16 : u 16 = (.bool hh) := r16
                  replace r17 : u 17 = (.bool hh) := r17
                  replace r18 : u 18 = (cond hh (.pointer (some ⟨bx, 43, none⟩)) undef) := r18
                  replace r19 : u 19 = (cond hh (.bool true) undef) := r19
                  replace r20 : u 20 = (cond hh (.bool false) undef) := r20
                  replace r21 : u 21 = (cond hh (.bool false) undef) := r21
                  replace r22 : u 22 = (cond hh (.pointer (some ⟨bx, 4, none⟩)) undef) := r22
                  replace r23 : u 23 = (cond hh (.pointer (some ⟨bx, 6, none⟩)) undef) := r23
                  replace r24 : u 24 = (cond hh (.pointer (some ⟨bx, 6, none⟩)) undef) := r24
                  replace r25 : u 25 = (cond hh (.pointer (some ⟨bx, 8, none⟩)) undef) := r25
                  replace r26 : u 26 = (cond hh (.int .i64 X.hcert.vote.view) undef) := r26
                  replace r27 : u 27 = (cond hh (.pointer (some ⟨bs, 4, none⟩)) undef) := r27
                  replace r28 : u 28 = (cond hh (.pointer (some ⟨bs, 6, none⟩)) undef) := r28
                  replace r29 : u 29 = (cond hh (.pointer (some ⟨bs, 6, none⟩)) undef) := r29
                  replace r30 : u 30 = (cond hh (.pointer (some ⟨bs, 8, none⟩)) undef) := r30
                  replace r31 : u 31 = (cond hh (.int .i64 s.hcert.vote.view) undef) := r31
                  replace r32 : u 32 = (cond hh (.bool false) undef) := r32
                  replace r33 : u 33 = (cond hh (.bool false) undef) := r33
                  replace r34 : u 34 = (.bool false) := r34
                  replace r35 : u 35 = (.bool false) := r35
                  replace r36 : u 36 = (.bool false) := r36
                  replace r37 : u 37 = (.pointer (some ⟨bs, 84, none⟩)) := r37
                  replace r38 : u 38 = (.bool dd) := r38
                  replace r39 : u 39 = (.bool dd) := r39
                  replace r40 : u 40 = (cond dd (.pointer (some ⟨bx, 84, none⟩)) undef) := r40
                  replace r41 : u 41 = (cond dd (.bool true) undef) := r41
                  replace r42 : u 42 = (cond dd (.bool false) undef) := r42
                  replace r43 : u 43 = (cond dd (.bool false) undef) := r43
                  replace r44 : u 44 = (cond dd (.pointer (some ⟨bx, 44, none⟩)) undef) := r44
                  replace r45 : u 45 = (cond dd (.agg (entCells X.eslot X.ebat X.ecert).toArray) undef) := r45
                  replace r46 : u 46 = (cond dd (.pointer (some ⟨bs, 44, none⟩)) undef) := r46
                  replace r47 : u 47 = (cond dd (.agg (entCells s.eslot s.ebat s.ecert).toArray) undef) := r47
                  replace r48 : u 48 = (cond dd (.bool true) undef) := r48
                  replace r49 : u 49 = (cond dd (.bool false) undef) := r49
                  replace r50 : u 50 = (cond dd (.bool false) undef) := r50
                  replace r51 : u 51 = (.bool false) := r51
                  replace r52 : u 52 = (.bool false) := r52
                  rw [hM u]
                  clear hM
                  try simp only [str, r0, r1, r2, r3, r4, r5, r6, r7, r8, r9, r10, r11, r12, r13, r14, r15, r16, r17, r18, r19, r20, r21, r22, r23, r24, r25, r26, r27, r28, r29, r30, r31, r32, r33, r34, r35, r36, r37, r38, r39, r40, r41, r42, r43, r44, r45, r46, r47, r48, r49, r50, r51, r52]
                  clear r0 r1 r2 r3 r4 r5 r6 r7 r8 r9 r10 r11 r12 r13 r14 r15 r16 r17 r18 r19 r20 r21 r22 r23 r24 r25 r26 r27 r28 r29 r30 r31 r32 r33 r34 r35 r36 r37 r38 r39 r40 r41 r42 r43 r44 r45 r46 r47 r48 r49 r50 r51 r52
                  replace rx := Lib.hid (hI.at rx.out)
                  replace hS := Lib.hid (hI.at hS.out)
                  replace hM := Lib.hid (hM.out.same hI)
                  replace tt := Lib.hid (tt.out.trans hI)
                  clear hI hWm cXi cXh cXd cSi cSh cSd cXv cSv cXw cSw pX pS y1 y2 y3 y4 iE iE'
                  have cXi := sl_is rx.out
                  rw [← hxi.out] at cXi
                  go_upto_if 137 with fail
                  clear cXi
                  obtain ⟨w5, hw5⟩ : ∃ x, x = wx := ⟨_, rfl⟩
                  subst hw5
                  obtain ⟨m2, hm2⟩ : ∃ x, x = m.next X := ⟨_, rfl⟩
                  rw [← hm2] at y6 hinf3
                  replace hm2 := Lib.hid hm2
                  go_cut [11] (fun v wx => ∃ c', wx.heap[bx]? = some (.cells X.cells.toArray 42 (0, 0)) ∧ wx.heap[bs]? = some (.cells s.cells.toArray 42 (0, 0)) ∧ Met wx bm (j + 1) c' m2 ∧ Same wp wx)
                  case first =>
                    cases xi
                    · have hnx : m2 = m := by rw [hm2.out]; unfold MetV.next; rw [← hxi.out, if_neg (by simp)]
                      replace hnx := Lib.hid hnx
                      go_wp2
                      go_meet
                      exact ⟨_, rx.out, hS.out, by rw [hnx.out]; exact hM.out.mono, tt.out⟩
                    · have hnx : m2 = m.with X.view (bDig X.bat) := by rw [hm2.out]; unfold MetV.next; rw [← hxi.out, if_pos rfl]
                      have hmv := y5.out rfl
                      have iBx := Lib.hid (bat_infoL X.bat)
                      have hWm := Lib.hid (hsp.out.trans tt.out)
                      have hbx2 := (fits_at hXf.out).1.2.2.1
                      have kdg := rbdig_any X.bat w5 (BatV.same hbx2 hWm.out) (fits_at hXf.out).2.1
                      have hvw := (fits_at hXf.out).1.1
                      rw [show batDig X.bat.noop X.bat.reqs = bDig X.bat from rfl] at kdg
                      obtain ⟨D, hD⟩ : ∃ D, D = bDig X.bat := ⟨_, rfl⟩
                      have hDl : D.length = 32 := by rw [hD]; exact bDig_length _
                      rw [← hD] at kdg hmv hnx
                      have hid := dig_info hDl
                      have hneq := fun w => dig_neq D D hDl hDl w
                      rw [show (D != D) = false from by simp] at hneq
                      have hgd := Lib.hid dig_guard
                      clear hD hbx2 y5
                      replace hnx := Lib.hid hnx
                      replace hneq := Lib.hid hneq
                      replace kdg := Lib.hid kdg
                      replace hid := Lib.hid hid
                      replace hvw := Lib.hid hvw
                      have pB := Lib.hid (sl_bat rx.out)
                      have l3 := blk_lt rx.out
                      have l4 := blk_lt hS.out
                      have l5 := hM.out.lt
                      go_upto_region 28 with fail
                      go_wp2_with (refine load_mid rfl _ _ rfl bx 1 rfl X.bat.cells _ pB.out Try.underlying26 rfl iBx.out ?_)
                      refine kdg.out.mono ?_
                      rintro e w6 ⟨rfl, hs6⟩
                      have q6 := hs6.size
                      replace rx := Lib.hid (hs6.at rx.out)
                      replace hS := Lib.hid (hs6.at hS.out)
                      replace hM := Lib.hid (hM.out.same hs6)
                      replace tt := Lib.hid (tt.out.trans hs6)
                      clear hs6 kdg pB hWm
                      go_upto_region 29 with (first | (refine alloc_new rfl 28 rfl (bv zDig).toArray (by kernel_rfl) ?_; intro w7 hbd hs7; have l7 := blk_lt hbd; replace hbd := Lib.hid hbd; replace hs7 := Lib.hid hs7) | (refine store_row rfl _ _ _ rfl w6.heap.size (bv D).toArray rfl rfl _ _ hbd.out hid.out (by rw [List.size_toArray, List.size_toArray, bv_length, bv_length, hDl]; rfl) (all_of bv_cell) ?_; intro w8 rd hk8; replace rd := Lib.hid rd; replace hk8 := Lib.hid hk8))
                      have hs' : Same w6 w8 := hs7.out.keep hk8.out (fun x hx hv => by omega)
                      have q8 := hs'.size
                      replace rx := Lib.hid (hs'.at rx.out)
                      replace hS := Lib.hid (hs'.at hS.out)
                      replace hM := Lib.hid (hM.out.same hs')
                      replace tt := Lib.hid (tt.out.trans hs')
                      have ld := blk_lt rd.out
                      clear hs' hk8 hs7 hbd l7
                      go_simp
                      have hjm : j < maxLen := by unfold maxLen; omega
                      obtain ⟨V, hVe⟩ : ∃ V, V = m X.view := ⟨_, rfl⟩
                      rw [← hVe] at hmv
                      replace hVe := Lib.hid hVe
                      have cXv := sl_view rx.out
                      have hVl : (V.getD zDig).length = 32 := by
                        rcases hmv with h | h
                        · rw [h]; rfl
                        · rw [h]; exact hDl
                      have hiv := dig_info hVl
                      replace hiv := Lib.hid hiv
                      obtain ⟨F, hFe⟩ : ∃ F, F = V.getD zDig := ⟨_, rfl⟩
                      obtain ⟨G, hGe⟩ : ∃ G, G = V.isSome := ⟨_, rfl⟩
                      have hFG : G = true → F = D := by
                        rw [hGe, hFe]
                        rcases hmv with h | h
                        · rw [h]; intro h2; cases h2
                        · rw [h]; intro _; rfl
                      rw [← hFe] at hVl hiv
                      clear hmv
                      replace hFe := Lib.hid hFe
                      replace hGe := Lib.hid hGe
                      replace hDl := Lib.hid hDl
                      replace hVl := Lib.hid hVl
                      replace hFG := Lib.hid hFG
                      go_upto_region 30 with (first | (refine met_lookOk X.view rfl _ _ rfl rfl hM.out rfl hvw.out ?_; rw [← hVe.out, ← hFe.out, ← hGe.out]) | (refine alloc_new rfl 28 rfl (bv zDig).toArray (by kernel_rfl) ?_; intro w9 hbe hs9; have l9 := blk_lt hbe; replace hbe := Lib.hid hbe; replace hs9 := Lib.hid hs9) | (refine store_row rfl _ _ _ rfl w8.heap.size (bv F).toArray rfl rfl _ _ hbe.out hiv.out (by rw [List.size_toArray, List.size_toArray, bv_length, bv_length, hVl.out]; rfl) (all_of bv_cell) ?_; intro w10 re hk10; replace re := Lib.hid re; replace hk10 := Lib.hid hk10))
                      have hs' : Same w8 w10 := hs9.out.keep hk10.out (fun x hx hv => by omega)
                      have q10 := hs'.size
                      replace rx := Lib.hid (hs'.at rx.out)
                      replace hS := Lib.hid (hs'.at hS.out)
                      replace hM := Lib.hid (hM.out.same hs')
                      replace tt := Lib.hid (tt.out.trans hs')
                      replace rd := Lib.hid (hs'.at rd.out)
                      have cXv := sl_view rx.out
                      clear hs' hk10 hs9 hbe l9
                      go_simp
                      cases G
                      · go_upto_region 32 with fail
                        go_wp2_with (first | (refine load_row rfl _ _ rfl w6.heap.size rfl _ _ _ _ rd.out Try.underlying28 rfl hid.out ?_) | (refine met_put X.view D rfl _ _ _ rfl rfl hM.out hjm rfl hvw.out rfl ?_; intro w11 c2 hM2 hk11; replace hM2 := Lib.hid hM2; replace hk11 := Lib.hid hk11))
                        go_meet
                        exact ⟨_, (hk11.out.block _ (blk_lt rx.out) (by omega)).trans rx.out, (hk11.out.block _ (blk_lt hS.out) (by omega)).trans hS.out, by rw [hnx.out]; exact hM2.out, tt.out.keep hk11.out (fun x hx hv => by omega)⟩
                      · obtain rfl := hFG.out rfl
                        have hx := hneq.out
                        have hg := hgd.out
                        go_upto_region 32 with (first | (refine load_row rfl _ _ rfl w6.heap.size rfl _ _ _ _ rd.out Try.underlying28 rfl hid.out ?_) | (refine load_row rfl _ _ rfl w8.heap.size rfl _ _ _ _ re.out Try.underlying28 rfl hid.out ?_))
                        clear hx hg
                        go_wp2_with (first | (refine load_row rfl _ _ rfl w6.heap.size rfl _ _ _ _ rd.out Try.underlying28 rfl hid.out ?_) | (refine load_row rfl _ _ rfl w8.heap.size rfl _ _ _ _ re.out Try.underlying28 rfl hid.out ?_) | (refine met_put X.view F rfl _ _ _ rfl rfl hM.out hjm rfl hvw.out rfl ?_; intro w11 c2 hM2 hk11; replace hM2 := Lib.hid hM2; replace hk11 := Lib.hid hk11))
                        go_meet
                        exact ⟨_, (hk11.out.block _ (blk_lt rx.out) (by omega)).trans rx.out, (hk11.out.block _ (blk_lt hS.out) (by omega)).trans hS.out, by rw [hnx.out]; exact hM2.out, tt.out.keep hk11.out (fun x hx hv => by omega)⟩
                  case rest =>
                    obtain ⟨c', rx', hS', hM', tt'⟩ := hcut
                    rename World => w12
                    clear rx hS hM tt y5
                    have rx := Lib.hid rx'
                    have hS := Lib.hid hS'
                    have hM := Lib.hid hM'
                    have tt := Lib.hid tt'
                    clear rx' hS' hM' tt'
                    clear hm2
                    have hwX := (fits_at hXf.out).1
                    have hWm := Lib.hid (hsp.out.trans tt.out)
                    have kdg := fun w' (h : Same w w') => rbdig_any X.ebat w' (BatV.same hwX.2.2.2.2.2.1 h) (fits_at hXf.out).2.2.2
                    have hvw := Lib.hid hwX.2.2.2.2.1.1.2.2.2.1
                    rw [show batDig X.ebat.noop X.ebat.reqs = bDig X.ebat from rfl] at kdg
                    have l1 := wX.out.1.1
                    have l2 := wX.out.2.1
                    have cXh := sl_holds rx.out wX.out
                    have cXd := sl_decided rx.out wX.out
                    rw [← hxh.out] at cXh
                    rw [← hxd.out] at cXd
                    have cXw := Lib.hid (sl_hview rx.out)
                    have pH : w12.rangeAt bx 10 (bv X.hcert.vote.dig) := range_part (o := 6) (n := 4) (pre := [.int .i64 X.hcert.vote.kind, .int .i64 X.hcert.vote.epoch, .int .i64 X.hcert.vote.view, .int .i64 X.hcert.vote.slot]) (post := [.slice X.hcert.so X.hcert.signs.length X.hcert.sc]) (by have := sl_hcert rx.out; simpa only [CertV.cells, VoteV.cells, List.append_assoc] using this) rfl
                    have pE : w12.rangeAt bx 51 (bv X.ecert.vote.dig) := range_part (o := 47) (n := 4) (pre := [.int .i64 X.ecert.vote.kind, .int .i64 X.ecert.vote.epoch, .int .i64 X.ecert.vote.view, .int .i64 X.ecert.vote.slot]) (post := [.slice X.ecert.so X.ecert.signs.length X.ecert.sc]) (by have := sl_ecert rx.out wX.out; simpa only [CertV.cells, VoteV.cells, List.append_assoc] using this) rfl
                    have pB := Lib.hid (sl_ebat rx.out wX.out)
                    have iBe := Lib.hid (bat_infoL X.ebat)
                    obtain ⟨Dh, hDh⟩ : ∃ D, D = X.hcert.vote.dig := ⟨_, rfl⟩
                    obtain ⟨De, hDe⟩ : ∃ D, D = X.ecert.vote.dig := ⟨_, rfl⟩
                    obtain ⟨Db, hDb⟩ : ∃ D, D = bDig X.ebat := ⟨_, rfl⟩
                    have l3 : Db.length = 32 := by rw [hDb]; exact bDig_length _
                    have hgm : xh = true → (m2 X.hcert.vote.view).getD zDig = Dh := fun h => by rw [y6.out h, hDh]; rfl
                    have hde : xd = true → De = Db := fun h => by rw [hDe, hDb]; exact y7.out h
                    rw [← hDh] at l1 pH
                    rw [← hDe] at l2 pE
                    rw [← hDb] at kdg
                    have hi1 : (Try.prog.info? 28).map (·.size) = some (bv Dh).length := by rw [bv_length, l1]; kernel_rfl
                    have hi2 : (Try.prog.info? 28).map (·.size) = some (bv De).length := by rw [bv_length, l2]; kernel_rfl
                    have hn1 := fun w => dig_neq Dh Dh l1 l1 w
                    have hn2 := fun w => dig_neq Db Db l3 l3 w
                    rw [show (Dh != Dh) = false from by simp] at hn1
                    rw [show (Db != Db) = false from by simp] at hn2
                    have hgd := Lib.hid dig_guard
                    clear hwX hDh hDe hDb l1 l2 l3 y6 y7 hxi hxh hxd
                    replace kdg := Lib.hid kdg
                    replace hgm := Lib.hid hgm
                    replace hde := Lib.hid hde
                    replace hi1 := Lib.hid hi1
                    replace hi2 := Lib.hid hi2
                    replace hn1 := Lib.hid hn1
                    replace hn2 := Lib.hid hn2
                    replace pH := Lib.hid pH
                    replace pE := Lib.hid pE
                    replace cXh := Lib.hid cXh
                    replace cXd := Lib.hid cXd
                    have hMt := hM
                    go_upto_region 33 with fail
                    refine wp_region_factsM (by kernel_rfl) [(158, 0), (159, 1), (160, 2), (161, 3), (162, 4), (163, 5), (164, 6), (165, 7), (166, 8), (167, 9), (168, 10), (169, 11), (170, 12), (171, 13), (172, 14), (173, 15), (174, 16), (175, 17), (176, 18), (177, 19), (178, 20), (179, 21), (180, 22), (181, 23), (182, 24), (183, 25), (184, 26), (185, 27), (186, 28), (187, 29), (188, 30), (189, 31), (190, 32)] Same (Same _) [isV (.pointer (some ⟨bx, 43, none⟩)), isV (.bool xh), isV (.bool xh), isV (cond xh (.pointer (some ⟨bx, 4, none⟩)) undef), isV (cond xh (.pointer (some ⟨bx, 6, none⟩)) undef), isV (cond xh (.pointer (some ⟨bx, 6, none⟩)) undef), isV (cond xh (.pointer (some ⟨bx, 10, none⟩)) undef), isV (cond xh (.agg (bv Dh).toArray) undef), isV (cond xh (.map (some bm)) undef), isV (cond xh (.pointer (some ⟨bx, 4, none⟩)) undef), isV (cond xh (.pointer (some ⟨bx, 6, none⟩)) undef), isV (cond xh (.pointer (some ⟨bx, 6, none⟩)) undef), isV (cond xh (.pointer (some ⟨bx, 8, none⟩)) undef), isV (cond xh (.int .i64 X.hcert.vote.view) undef), isV (cond xh (.agg (bv Dh).toArray) undef), isV (cond xh (.bool false) undef), isV (.bool false), isV (.bool false), isV (.pointer (some ⟨bx, 84, none⟩)), isV (.bool xd), isV (.bool xd), isV (cond xd (.pointer (some ⟨bx, 44, none⟩)) undef), isV (cond xd (.pointer (some ⟨bx, 47, none⟩)) undef), isV (cond xd (.pointer (some ⟨bx, 47, none⟩)) undef), isV (cond xd (.pointer (some ⟨bx, 51, none⟩)) undef), isV (cond xd (.agg (bv Db).toArray) undef), isV (cond xd (.pointer (some ⟨bx, 44, none⟩)) undef), isV (cond xd (.pointer (some ⟨bx, 45, none⟩)) undef), isV (cond xd (.agg X.ebat.cells.toArray) undef), isV (cond xd (.agg (bv Db).toArray) undef), isV (cond xd (.bool false) undef), isV (.bool false), isV (.bool false)] Same.refl.drew (fun _ _ h k => h.trans k) (by simp [isV_stable, isB_stable, isAny_stable]) (by decide) (by decide) (fun u => by simp only [mkAct, List.foldl_cons, List.foldl_nil, List.setIfInBounds_toArray, List.set_cons_succ, List.set_cons_zero] <;> exact rfl) ?_ ?_
                    · intro M hM
                      try dsimp only at hM
                      replace hM := Lib.hid hM
                      refine ⟨?_, ?_, ?_, ?_, ?_, ?_, ?_, ?_, ?_, ?_, ?_, ?_, ?_, ?_, ?_, ?_, ?_, ?_, ?_, ?_, ?_, ?_, ?_, ?_, ?_, ?_, ?_, ?_, ?_, ?_, ?_, ?_, ?_, trivial⟩
                      all_goals (intro u wx hI hp; rw [hM.out u])
                      · -- operation 0
                        go_wp2
                        refine stm_v rfl Same.refl ?_
                        rw [hM.out]; first | (simp only [upd, reduceIte, Nat.reduceEqDiff, Nat.reduceAdd, List.setIfInBounds_toArray, List.set_cons_succ, List.set_cons_zero, str]; done) | (simp [upd, str, *]; done)
                      · -- operation 1
                        obtain ⟨f0, -⟩ := hp
                        replace f0 : u 0 = (.pointer (some ⟨bx, 43, none⟩)) := f0
                        try simp only [f0, str]
                        have cx := hI.cell (cXh.out)
                        go_wp2
                        refine stm_v rfl Same.refl ?_
                        rw [hM.out]; first | (simp only [upd, reduceIte, Nat.reduceEqDiff, Nat.reduceAdd, List.setIfInBounds_toArray, List.set_cons_succ, List.set_cons_zero, f0, str]; done) | (simp [upd, f0, str, *]; done)
                      · -- operation 2
                        obtain ⟨f1, -⟩ := hp
                        replace f1 : u 1 = (.bool xh) := f1
                        try simp only [f1, str]
                        go_wp2
                        refine stm_v rfl Same.refl ?_
                        rw [hM.out]; first | (simp only [upd, reduceIte, Nat.reduceEqDiff, Nat.reduceAdd, List.setIfInBounds_toArray, List.set_cons_succ, List.set_cons_zero, f1, str]; done) | (simp [upd, f1, str, *]; done)
                      · -- operation 3
                        obtain ⟨f2, -⟩ := hp
                        replace f2 : u 2 = (.bool xh) := f2
                        cases xh
                        · try simp only [f2, str]
                          go_wp2
                          refine stm_v rfl Same.refl ?_
                          rw [hM.out]; first | (simp only [upd, reduceIte, Nat.reduceEqDiff, Nat.reduceAdd, List.setIfInBounds_toArray, List.set_cons_succ, List.set_cons_zero, f2, str]; done) | (simp [upd, f2, str, *]; done)
                        · try simp only [f2, str]
                          go_wp2
                          refine stm_v rfl Same.refl ?_
                          rw [hM.out]; first | (simp only [upd, reduceIte, Nat.reduceEqDiff, Nat.reduceAdd, List.setIfInBounds_toArray, List.set_cons_succ, List.set_cons_zero, f2, str]; done) | (simp [upd, f2, str, *]; done)
                      · -- operation 4
                        obtain ⟨f3, f2, -⟩ := hp
                        replace f3 : u 3 = (cond xh (.pointer (some ⟨bx, 4, none⟩)) undef) := f3
                        replace f2 : u 2 = (.bool xh) := f2
                        cases xh
                        · try simp only [cond_true, cond_false] at f3
                          try simp only [f3, f2, str]
                          go_wp2
                          refine stm_v rfl Same.refl ?_
                          rw [hM.out]; first | (simp only [upd, reduceIte, Nat.reduceEqDiff, Nat.reduceAdd, List.setIfInBounds_toArray, List.set_cons_succ, List.set_cons_zero, f3, f2, str]; done) | (simp [upd, f3, f2, str, *]; done)
                        · try simp only [cond_true, cond_false] at f3
                          try simp only [f3, f2, str]
                          go_wp2
                          refine stm_v rfl Same.refl ?_
                          rw [hM.out]; first | (simp only [upd, reduceIte, Nat.reduceEqDiff, Nat.reduceAdd, List.setIfInBounds_toArray, List.set_cons_succ, List.set_cons_zero, f3, f2, str]; done) | (simp [upd, f3, f2, str, *]; done)
                      · -- operation 5
                        obtain ⟨f4, f2, -⟩ := hp
                        replace f4 : u 4 = (cond xh (.pointer (some ⟨bx, 6, none⟩)) undef) := f4
                        replace f2 : u 2 = (.bool xh) := f2
                        cases xh
                        · try simp only [cond_true, cond_false] at f4
                          try simp only [f4, f2, str]
                          go_wp2
                          refine stm_v rfl Same.refl ?_
                          rw [hM.out]; first | (simp only [upd, reduceIte, Nat.reduceEqDiff, Nat.reduceAdd, List.setIfInBounds_toArray, List.set_cons_succ, List.set_cons_zero, f4, f2, str]; done) | (simp [upd, f4, f2, str, *]; done)
                        · try simp only [cond_true, cond_false] at f4
                          try simp only [f4, f2, str]
                          go_wp2
                          refine stm_v rfl Same.refl ?_
                          rw [hM.out]; first | (simp only [upd, reduceIte, Nat.reduceEqDiff, Nat.reduceAdd, List.setIfInBounds_toArray, List.set_cons_succ, List.set_cons_zero, f4, f2, str]; done) | (simp [upd, f4, f2, str, *]; done)
                      · -- operation 6
                        obtain ⟨f5, f2, -⟩ := hp
                        replace f5 : u 5 = (cond xh (.pointer (some ⟨bx, 6, none⟩)) undef) := f5
                        replace f2 : u 2 = (.bool xh) := f2
                        cases xh
                        · try simp only [cond_true, cond_false] at f5
                          try simp only [f5, f2, str]
                          go_wp2
                          refine stm_v rfl Same.refl ?_
                          rw [hM.out]; first | (simp only [upd, reduceIte, Nat.reduceEqDiff, Nat.reduceAdd, List.setIfInBounds_toArray, List.set_cons_succ, List.set_cons_zero, f5, f2, str]; done) | (simp [upd, f5, f2, str, *]; done)
                        · try simp only [cond_true, cond_false] at f5
                          try simp only [f5, f2, str]
                          go_wp2
                          refine stm_v rfl Same.refl ?_
                          rw [hM.out]; first | (simp only [upd, reduceIte, Nat.reduceEqDiff, Nat.reduceAdd, List.setIfInBounds_toArray, List.set_cons_succ, List.set_cons_zero, f5, f2, str]; done) | (simp [upd, f5, f2, str, *]; done)
                      · -- operation 7
                        obtain ⟨f6, f2, -⟩ := hp
                        replace f6 : u 6 = (cond xh (.pointer (some ⟨bx, 10, none⟩)) undef) := f6
                        replace f2 : u 2 = (.bool xh) := f2
                        cases xh
                        · try simp only [cond_true, cond_false] at f6
                          try simp only [f6, f2, str]
                          go_wp2
                          refine stm_v rfl Same.refl ?_
                          rw [hM.out]; first | (simp only [upd, reduceIte, Nat.reduceEqDiff, Nat.reduceAdd, List.setIfInBounds_toArray, List.set_cons_succ, List.set_cons_zero, f6, f2, str]; done) | (simp [upd, f6, f2, str, *]; done)
                        · try simp only [cond_true, cond_false] at f6
                          try simp only [f6, f2, str]
                          go_wp2_with (refine load_mid rfl _ _ rfl bx 10 rfl (bv Dh) _ (hI.range pH.out) Try.underlying28 rfl hi1.out ?_)
                          refine stm_v rfl Same.refl ?_
                          rw [hM.out]; first | (simp only [upd, reduceIte, Nat.reduceEqDiff, Nat.reduceAdd, List.setIfInBounds_toArray, List.set_cons_succ, List.set_cons_zero, f6, f2, str]; done) | (simp [upd, f6, f2, str, *]; done)
                      · -- operation 8
                        obtain ⟨f2, -⟩ := hp
                        replace f2 : u 2 = (.bool xh) := f2
                        cases xh
                        · try simp only [f2, str]
                          go_wp2
                          refine stm_v rfl Same.refl ?_
                          rw [hM.out]; first | (simp only [upd, reduceIte, Nat.reduceEqDiff, Nat.reduceAdd, List.setIfInBounds_toArray, List.set_cons_succ, List.set_cons_zero, f2, str]; done) | (simp [upd, f2, str, *]; done)
                        · try simp only [f2, str]
                          go_wp2
                          refine stm_v rfl Same.refl ?_
                          rw [hM.out]; first | (simp only [upd, reduceIte, Nat.reduceEqDiff, Nat.reduceAdd, List.setIfInBounds_toArray, List.set_cons_succ, List.set_cons_zero, f2, str]; done) | (simp [upd, f2, str, *]; done)
                      · -- operation 9
                        obtain ⟨f2, -⟩ := hp
                        replace f2 : u 2 = (.bool xh) := f2
                        cases xh
                        · try simp only [f2, str]
                          go_wp2
                          refine stm_v rfl Same.refl ?_
                          rw [hM.out]; first | (simp only [upd, reduceIte, Nat.reduceEqDiff, Nat.reduceAdd, List.setIfInBounds_toArray, List.set_cons_succ, List.set_cons_zero, f2, str]; done) | (simp [upd, f2, str, *]; done)
                        · try simp only [f2, str]
                          go_wp2
                          refine stm_v rfl Same.refl ?_
                          rw [hM.out]; first | (simp only [upd, reduceIte, Nat.reduceEqDiff, Nat.reduceAdd, List.setIfInBounds_toArray, List.set_cons_succ, List.set_cons_zero, f2, str]; done) | (simp [upd, f2, str, *]; done)
                      · -- operation 10
                        obtain ⟨f9, f2, -⟩ := hp
                        replace f9 : u 9 = (cond xh (.pointer (some ⟨bx, 4, none⟩)) undef) := f9
                        replace f2 : u 2 = (.bool xh) := f2
                        cases xh
                        · try simp only [cond_true, cond_false] at f9
                          try simp only [f9, f2, str]
                          go_wp2
                          refine stm_v rfl Same.refl ?_
                          rw [hM.out]; first | (simp only [upd, reduceIte, Nat.reduceEqDiff, Nat.reduceAdd, List.setIfInBounds_toArray, List.set_cons_succ, List.set_cons_zero, f9, f2, str]; done) | (simp [upd, f9, f2, str, *]; done)
                        · try simp only [cond_true, cond_false] at f9
                          try simp only [f9, f2, str]
                          go_wp2
                          refine stm_v rfl Same.refl ?_
                          rw [hM.out]; first | (simp only [upd, reduceIte, Nat.reduceEqDiff, Nat.reduceAdd, List.setIfInBounds_toArray, List.set_cons_succ, List.set_cons_zero, f9, f2, str]; done) | (simp [upd, f9, f2, str, *]; done)
                      · -- operation 11
                        obtain ⟨f10, f2, -⟩ := hp
                        replace f10 : u 10 = (cond xh (.pointer (some ⟨bx, 6, none⟩)) undef) := f10
                        replace f2 : u 2 = (.bool xh) := f2
                        cases xh
                        · try simp only [cond_true, cond_false] at f10
                          try simp only [f10, f2, str]
                          go_wp2
                          refine stm_v rfl Same.refl ?_
                          rw [hM.out]; first | (simp only [upd, reduceIte, Nat.reduceEqDiff, Nat.reduceAdd, List.setIfInBounds_toArray, List.set_cons_succ, List.set_cons_zero, f10, f2, str]; done) | (simp [upd, f10, f2, str, *]; done)
                        · try simp only [cond_true, cond_false] at f10
                          try simp only [f10, f2, str]
                          go_wp2
                          refine stm_v rfl Same.refl ?_
                          rw [hM.out]; first | (simp only [upd, reduceIte, Nat.reduceEqDiff, Nat.reduceAdd, List.setIfInBounds_toArray, List.set_cons_succ, List.set_cons_zero, f10, f2, str]; done) | (simp [upd, f10, f2, str, *]; done)
                      · -- operation 12
                        obtain ⟨f11, f2, -⟩ := hp
                        replace f11 : u 11 = (cond xh (.pointer (some ⟨bx, 6, none⟩)) undef) := f11
                        replace f2 : u 2 = (.bool xh) := f2
                        cases xh
                        · try simp only [cond_true, cond_false] at f11
                          try simp only [f11, f2, str]
                          go_wp2
                          refine stm_v rfl Same.refl ?_
                          rw [hM.out]; first | (simp only [upd, reduceIte, Nat.reduceEqDiff, Nat.reduceAdd, List.setIfInBounds_toArray, List.set_cons_succ, List.set_cons_zero, f11, f2, str]; done) | (simp [upd, f11, f2, str, *]; done)
                        · try simp only [cond_true, cond_false] at f11
                          try simp only [f11, f2, str]
                          go_wp2
                          refine stm_v rfl Same.refl ?_
                          rw [hM.out]; first | (simp only [upd, reduceIte, Nat.reduceEqDiff, Nat.reduceAdd, List.setIfInBounds_toArray, List.set_cons_succ, List.set_cons_zero, f11, f2, str]; done) | (simp [upd, f11, f2, str, *]; done)
                      · -- operation 13
                        obtain ⟨f12, f2, -⟩ := hp
                        replace f12 : u 12 = (cond xh (.pointer (some ⟨bx, 8, none⟩)) undef) := f12
                        replace f2 : u 2 = (.bool xh) := f2
                        cases xh
                        · try simp only [cond_true, cond_false] at f12
                          try simp only [f12, f2, str]
                          go_wp2
                          refine stm_v rfl Same.refl ?_
                          rw [hM.out]; first | (simp only [upd, reduceIte, Nat.reduceEqDiff, Nat.reduceAdd, List.setIfInBounds_toArray, List.set_cons_succ, List.set_cons_zero, f12, f2, str]; done) | (simp [upd, f12, f2, str, *]; done)
                        · try simp only [cond_true, cond_false] at f12
                          try simp only [f12, f2, str]
                          have cx := hI.cell (cXw.out)
                          go_wp2
                          refine stm_v rfl Same.refl ?_
                          rw [hM.out]; first | (simp only [upd, reduceIte, Nat.reduceEqDiff, Nat.reduceAdd, List.setIfInBounds_toArray, List.set_cons_succ, List.set_cons_zero, f12, f2, str]; done) | (simp [upd, f12, f2, str, *]; done)
                      · -- operation 14
                        obtain ⟨f8, f13, f2, -⟩ := hp
                        replace f8 : u 8 = (cond xh (.map (some bm)) undef) := f8
                        replace f13 : u 13 = (cond xh (.int .i64 X.hcert.vote.view) undef) := f13
                        replace f2 : u 2 = (.bool xh) := f2
                        cases xh
                        · try simp only [cond_true, cond_false] at f8 f13
                          try simp only [f8, f13, f2, str]
                          go_wp2
                          refine stm_v rfl Same.refl ?_
                          rw [hM.out]; first | (simp only [upd, reduceIte, Nat.reduceEqDiff, Nat.reduceAdd, List.setIfInBounds_toArray, List.set_cons_succ, List.set_cons_zero, f8, f13, f2, str]; done) | (simp [upd, f8, f13, f2, str, *]; done)
                        · try simp only [cond_true, cond_false] at f8 f13
                          try simp only [f8, f13, f2, str]
                          go_wp2_with (refine met_look X.hcert.vote.view rfl _ _ rfl rfl (hMt.out.same hI) rfl hvw.out ?_; rw [hgm.out (by trivial)])
                          refine stm_v rfl Same.refl ?_
                          rw [hM.out]; first | (simp only [upd, reduceIte, Nat.reduceEqDiff, Nat.reduceAdd, List.setIfInBounds_toArray, List.set_cons_succ, List.set_cons_zero, f8, f13, f2, str]; done) | (simp [upd, f8, f13, f2, str, *]; done)
                      · -- operation 15
                        obtain ⟨f7, f14, f2, -⟩ := hp
                        replace f7 : u 7 = (cond xh (.agg (bv Dh).toArray) undef) := f7
                        replace f14 : u 14 = (cond xh (.agg (bv Dh).toArray) undef) := f14
                        replace f2 : u 2 = (.bool xh) := f2
                        cases xh
                        · try simp only [cond_true, cond_false] at f7 f14
                          try simp only [f7, f14, f2, str]
                          go_wp2
                          refine stm_v rfl Same.refl ?_
                          rw [hM.out]; first | (simp only [upd, reduceIte, Nat.reduceEqDiff, Nat.reduceAdd, List.setIfInBounds_toArray, List.set_cons_succ, List.set_cons_zero, f7, f14, f2, str]; done) | (simp [upd, f7, f14, f2, str, *]; done)
                        · try simp only [cond_true, cond_false] at f7 f14
                          try simp only [f7, f14, f2, str]
                          have hx := hn1.out
                          have hg := hgd.out
                          go_wp2
                          refine stm_v rfl Same.refl ?_
                          rw [hM.out]; first | (simp only [upd, reduceIte, Nat.reduceEqDiff, Nat.reduceAdd, List.setIfInBounds_toArray, List.set_cons_succ, List.set_cons_zero, f7, f14, f2, str]; done) | (simp [upd, f7, f14, f2, str, *]; done)
                      · -- operation 16
                        obtain ⟨f2, f15, -⟩ := hp
                        replace f2 : u 2 = (.bool xh) := f2
                        replace f15 : u 15 = (cond xh (.bool false) undef) := f15
                        cases xh
                        · try simp only [cond_true, cond_false] at f15
                          try simp only [f2, f15, str]
                          go_wp2
                          refine stm_v rfl Same.refl ?_
                          rw [hM.out]; first | (simp only [upd, reduceIte, Nat.reduceEqDiff, Nat.reduceAdd, List.setIfInBounds_toArray, List.set_cons_succ, List.set_cons_zero, f2, f15, str]; done) | (simp [upd, f2, f15, str, *]; done)
                        · try simp only [cond_true, cond_false] at f15
                          try simp only [f2, f15, str]
                          go_wp2
                          refine stm_v rfl Same.refl ?_
                          rw [hM.out]; first | (simp only [upd, reduceIte, Nat.reduceEqDiff, Nat.reduceAdd, List.setIfInBounds_toArray, List.set_cons_succ, List.set_cons_zero, f2, f15, str]; done) | (simp [upd, f2, f15, str, *]; done)
                      · -- operation 17
                        obtain ⟨f16, -, -⟩ := hp
                        replace f16 : u 16 = (.bool false) := f16
                        try simp only [f16, str]
                        go_wp2
                        refine stm_v rfl Same.refl ?_
                        rw [hM.out]; first | (simp only [upd, reduceIte, Nat.reduceEqDiff, Nat.reduceAdd, List.setIfInBounds_toArray, List.set_cons_succ, List.set_cons_zero, f16, str]; done) | (simp [upd, f16, str, *]; done)
                      · -- operation 18
                        obtain ⟨f17, -⟩ := hp
                        replace f17 : u 17 = (.bool false) := f17
                        try simp only [f17, str]
                        go_wp2
                        refine stm_v rfl Same.refl ?_
                        rw [hM.out]; first | (simp only [upd, reduceIte, Nat.reduceEqDiff, Nat.reduceAdd, List.setIfInBounds_toArray, List.set_cons_succ, List.set_cons_zero, f17, str]; done) | (simp [upd, f17, str, *]; done)
                      · -- operation 19
                        obtain ⟨f18, f17, -⟩ := hp
                        replace f18 : u 18 = (.pointer (some ⟨bx, 84, none⟩)) := f18
                        replace f17 : u 17 = (.bool false) := f17
                        try simp only [f18, f17, str]
                        have cx := hI.cell (cXd.out)
                        go_wp2
                        refine stm_v rfl Same.refl ?_
                        rw [hM.out]; first | (simp only [upd, reduceIte, Nat.reduceEqDiff, Nat.reduceAdd, List.setIfInBounds_toArray, List.set_cons_succ, List.set_cons_zero, f18, f17, str]; done) | (simp [upd, f18, f17, str, *]; done)
                      · -- operation 20
                        obtain ⟨f19, -, f17, -⟩ := hp
                        replace f19 : u 19 = (.bool xd) := f19
                        replace f17 : u 17 = (.bool false) := f17
                        try simp only [f19, f17, str]
                        go_wp2
                        refine stm_v rfl Same.refl ?_
                        rw [hM.out]; first | (simp only [upd, reduceIte, Nat.reduceEqDiff, Nat.reduceAdd, List.setIfInBounds_toArray, List.set_cons_succ, List.set_cons_zero, f19, f17, str]; done) | (simp [upd, f19, f17, str, *]; done)
                      · -- operation 21
                        obtain ⟨f20, -⟩ := hp
                        replace f20 : u 20 = (.bool xd) := f20
                        cases xd
                        · try simp only [f20, str]
                          go_wp2
                          refine stm_v rfl Same.refl ?_
                          rw [hM.out]; first | (simp only [upd, reduceIte, Nat.reduceEqDiff, Nat.reduceAdd, List.setIfInBounds_toArray, List.set_cons_succ, List.set_cons_zero, f20, str]; done) | (simp [upd, f20, str, *]; done)
                        · try simp only [f20, str]
                          go_wp2
                          refine stm_v rfl Same.refl ?_
                          rw [hM.out]; first | (simp only [upd, reduceIte, Nat.reduceEqDiff, Nat.reduceAdd, List.setIfInBounds_toArray, List.set_cons_succ, List.set_cons_zero, f20, str]; done) | (simp [upd, f20, str, *]; done)
                      · -- operation 22
                        obtain ⟨f21, f20, -⟩ := hp
                        replace f21 : u 21 = (cond xd (.pointer (some ⟨bx, 44, none⟩)) undef) := f21
                        replace f20 : u 20 = (.bool xd) := f20
                        cases xd
                        · try simp only [cond_true, cond_false] at f21
                          try simp only [f21, f20, str]
                          go_wp2
                          refine stm_v rfl Same.refl ?_
                          rw [hM.out]; first | (simp only [upd, reduceIte, Nat.reduceEqDiff, Nat.reduceAdd, List.setIfInBounds_toArray, List.set_cons_succ, List.set_cons_zero, f21, f20, str]; done) | (simp [upd, f21, f20, str, *]; done)
                        · try simp only [cond_true, cond_false] at f21
                          try simp only [f21, f20, str]
                          go_wp2
                          refine stm_v rfl Same.refl ?_
                          rw [hM.out]; first | (simp only [upd, reduceIte, Nat.reduceEqDiff, Nat.reduceAdd, List.setIfInBounds_toArray, List.set_cons_succ, List.set_cons_zero, f21, f20, str]; done) | (simp [upd, f21, f20, str, *]; done)
                      · -- operation 23
                        obtain ⟨f22, f20, -⟩ := hp
                        replace f22 : u 22 = (cond xd (.pointer (some ⟨bx, 47, none⟩)) undef) := f22
                        replace f20 : u 20 = (.bool xd) := f20
                        cases xd
                        · try simp only [cond_true, cond_false] at f22
                          try simp only [f22, f20, str]
                          go_wp2
                          refine stm_v rfl Same.refl ?_
                          rw [hM.out]; first | (simp only [upd, reduceIte, Nat.reduceEqDiff, Nat.reduceAdd, List.setIfInBounds_toArray, List.set_cons_succ, List.set_cons_zero, f22, f20, str]; done) | (simp [upd, f22, f20, str, *]; done)
                        · try simp only [cond_true, cond_false] at f22
                          try simp only [f22, f20, str]
                          go_wp2
                          refine stm_v rfl Same.refl ?_
                          rw [hM.out]; first | (simp only [upd, reduceIte, Nat.reduceEqDiff, Nat.reduceAdd, List.setIfInBounds_toArray, List.set_cons_succ, List.set_cons_zero, f22, f20, str]; done) | (simp [upd, f22, f20, str, *]; done)
                      · -- operation 24
                        obtain ⟨f23, f20, -⟩ := hp
                        replace f23 : u 23 = (cond xd (.pointer (some ⟨bx, 47, none⟩)) undef) := f23
                        replace f20 : u 20 = (.bool xd) := f20
                        cases xd
                        · try simp only [cond_true, cond_false] at f23
                          try simp only [f23, f20, str]
                          go_wp2
                          refine stm_v rfl Same.refl ?_
                          rw [hM.out]; first | (simp only [upd, reduceIte, Nat.reduceEqDiff, Nat.reduceAdd, List.setIfInBounds_toArray, List.set_cons_succ, List.set_cons_zero, f23, f20, str]; done) | (simp [upd, f23, f20, str, *]; done)
                        · try simp only [cond_true, cond_false] at f23
                          try simp only [f23, f20, str]
                          go_wp2
                          refine stm_v rfl Same.refl ?_
                          rw [hM.out]; first | (simp only [upd, reduceIte, Nat.reduceEqDiff, Nat.reduceAdd, List.setIfInBounds_toArray, List.set_cons_succ, List.set_cons_zero, f23, f20, str]; done) | (simp [upd, f23, f20, str, *]; done)
                      · -- operation 25
                        obtain ⟨f24, f20, -⟩ := hp
                        replace f24 : u 24 = (cond xd (.pointer (some ⟨bx, 51, none⟩)) undef) := f24
                        replace f20 : u 20 = (.bool xd) := f20
                        cases xd
                        · try simp only [cond_true, cond_false] at f24
                          try simp only [f24, f20, str]
                          go_wp2
                          refine stm_v rfl Same.refl ?_
                          rw [hM.out]; first | (simp only [upd, reduceIte, Nat.reduceEqDiff, Nat.reduceAdd, List.setIfInBounds_toArray, List.set_cons_succ, List.set_cons_zero, f24, f20, str]; done) | (simp [upd, f24, f20, str, *]; done)
                        · try simp only [cond_true, cond_false] at f24
                          try simp only [f24, f20, str]
                          have hdx := hde.out (by trivial)
                          subst hdx
                          go_wp2_with (refine load_mid rfl _ _ rfl bx 51 rfl (bv De) _ (hI.range pE.out) Try.underlying28 rfl hi2.out ?_)
                          refine stm_v rfl Same.refl ?_
                          rw [hM.out]; first | (simp only [upd, reduceIte, Nat.reduceEqDiff, Nat.reduceAdd, List.setIfInBounds_toArray, List.set_cons_succ, List.set_cons_zero, f24, f20, str]; done) | (simp [upd, f24, f20, str, *]; done)
                      · -- operation 26
                        obtain ⟨f20, -⟩ := hp
                        replace f20 : u 20 = (.bool xd) := f20
                        cases xd
                        · try simp only [f20, str]
                          go_wp2
                          refine stm_v rfl Same.refl ?_
                          rw [hM.out]; first | (simp only [upd, reduceIte, Nat.reduceEqDiff, Nat.reduceAdd, List.setIfInBounds_toArray, List.set_cons_succ, List.set_cons_zero, f20, str]; done) | (simp [upd, f20, str, *]; done)
                        · try simp only [f20, str]
                          go_wp2
                          refine stm_v rfl Same.refl ?_
                          rw [hM.out]; first | (simp only [upd, reduceIte, Nat.reduceEqDiff, Nat.reduceAdd, List.setIfInBounds_toArray, List.set_cons_succ, List.set_cons_zero, f20, str]; done) | (simp [upd, f20, str, *]; done)
                      · -- operation 27
                        obtain ⟨f26, f20, -⟩ := hp
                        replace f26 : u 26 = (cond xd (.pointer (some ⟨bx, 44, none⟩)) undef) := f26
                        replace f20 : u 20 = (.bool xd) := f20
                        cases xd
                        · try simp only [cond_true, cond_false] at f26
                          try simp only [f26, f20, str]
                          go_wp2
                          refine stm_v rfl Same.refl ?_
                          rw [hM.out]; first | (simp only [upd, reduceIte, Nat.reduceEqDiff, Nat.reduceAdd, List.setIfInBounds_toArray, List.set_cons_succ, List.set_cons_zero, f26, f20, str]; done) | (simp [upd, f26, f20, str, *]; done)
                        · try simp only [cond_true, cond_false] at f26
                          try simp only [f26, f20, str]
                          go_wp2
                          refine stm_v rfl Same.refl ?_
                          rw [hM.out]; first | (simp only [upd, reduceIte, Nat.reduceEqDiff, Nat.reduceAdd, List.setIfInBounds_toArray, List.set_cons_succ, List.set_cons_zero, f26, f20, str]; done) | (simp [upd, f26, f20, str, *]; done)
                      · -- operation 28
                        obtain ⟨f27, f20, -⟩ := hp
                        replace f27 : u 27 = (cond xd (.pointer (some ⟨bx, 45, none⟩)) undef) := f27
                        replace f20 : u 20 = (.bool xd) := f20
                        cases xd
                        · try simp only [cond_true, cond_false] at f27
                          try simp only [f27, f20, str]
                          go_wp2
                          refine stm_v rfl Same.refl ?_
                          rw [hM.out]; first | (simp only [upd, reduceIte, Nat.reduceEqDiff, Nat.reduceAdd, List.setIfInBounds_toArray, List.set_cons_succ, List.set_cons_zero, f27, f20, str]; done) | (simp [upd, f27, f20, str, *]; done)
                        · try simp only [cond_true, cond_false] at f27
                          try simp only [f27, f20, str]
                          go_wp2_with (refine load_mid rfl _ _ rfl bx 45 rfl X.ebat.cells _ (hI.range pB.out) Try.underlying26 rfl iBe.out ?_)
                          refine stm_v rfl Same.refl ?_
                          rw [hM.out]; first | (simp only [upd, reduceIte, Nat.reduceEqDiff, Nat.reduceAdd, List.setIfInBounds_toArray, List.set_cons_succ, List.set_cons_zero, f27, f20, str]; done) | (simp [upd, f27, f20, str, *]; done)
                      · -- operation 29
                        obtain ⟨f28, -, f20, -⟩ := hp
                        replace f28 : u 28 = (cond xd (.agg X.ebat.cells.toArray) undef) := f28
                        replace f20 : u 20 = (.bool xd) := f20
                        cases xd
                        · try simp only [cond_true, cond_false] at f28
                          try simp only [f28, f20, str]
                          go_wp2
                          refine stm_v rfl Same.refl ?_
                          rw [hM.out]; first | (simp only [upd, reduceIte, Nat.reduceEqDiff, Nat.reduceAdd, List.setIfInBounds_toArray, List.set_cons_succ, List.set_cons_zero, f28, f20, str]; done) | (simp [upd, f28, f20, str, *]; done)
                        · try simp only [cond_true, cond_false] at f28
                          try simp only [f28, f20, str]
                          go_wp2_with fail
                          refine (kdg.out _ (hWm.out.trans hI)).mono ?_
                          rintro e w1 ⟨rfl, hs'⟩
                          go_wp2
                          refine stm_v rfl hs' ?_
                          rw [hM.out]; first | (simp only [upd, reduceIte, Nat.reduceEqDiff, Nat.reduceAdd, List.setIfInBounds_toArray, List.set_cons_succ, List.set_cons_zero, f28, f20, str]; done) | (simp [upd, f28, f20, str, *]; done)
                      · -- operation 30
                        obtain ⟨f25, f29, f20, -⟩ := hp
                        replace f25 : u 25 = (cond xd (.agg (bv Db).toArray) undef) := f25
                        replace f29 : u 29 = (cond xd (.agg (bv Db).toArray) undef) := f29
                        replace f20 : u 20 = (.bool xd) := f20
                        cases xd
                        · try simp only [cond_true, cond_false] at f25 f29
                          try simp only [f25, f29, f20, str]
                          go_wp2
                          refine stm_v rfl Same.refl ?_
                          rw [hM.out]; first | (simp only [upd, reduceIte, Nat.reduceEqDiff, Nat.reduceAdd, List.setIfInBounds_toArray, List.set_cons_succ, List.set_cons_zero, f25, f29, f20, str]; done) | (simp [upd, f25, f29, f20, str, *]; done)
                        · try simp only [cond_true, cond_false] at f25 f29
                          try simp only [f25, f29, f20, str]
                          have hx := hn2.out
                          have hg := hgd.out
                          go_wp2
                          refine stm_v rfl Same.refl ?_
                          rw [hM.out]; first | (simp only [upd, reduceIte, Nat.reduceEqDiff, Nat.reduceAdd, List.setIfInBounds_toArray, List.set_cons_succ, List.set_cons_zero, f25, f29, f20, str]; done) | (simp [upd, f25, f29, f20, str, *]; done)
                      · -- operation 31
                        obtain ⟨f20, f30, f17, -⟩ := hp
                        replace f20 : u 20 = (.bool xd) := f20
                        replace f30 : u 30 = (cond xd (.bool false) undef) := f30
                        replace f17 : u 17 = (.bool false) := f17
                        cases xd
                        · try simp only [cond_true, cond_false] at f30
                          try simp only [f20, f30, f17, str]
                          go_wp2
                          refine stm_v rfl Same.refl ?_
                          rw [hM.out]; first | (simp only [upd, reduceIte, Nat.reduceEqDiff, Nat.reduceAdd, List.setIfInBounds_toArray, List.set_cons_succ, List.set_cons_zero, f20, f30, f17, str]; done) | (simp [upd, f20, f30, f17, str, *]; done)
                        · try simp only [cond_true, cond_false] at f30
                          try simp only [f20, f30, f17, str]
                          go_wp2
                          refine stm_v rfl Same.refl ?_
                          rw [hM.out]; first | (simp only [upd, reduceIte, Nat.reduceEqDiff, Nat.reduceAdd, List.setIfInBounds_toArray, List.set_cons_succ, List.set_cons_zero, f20, f30, f17, str]; done) | (simp [upd, f20, f30, f17, str, *]; done)
                      · -- operation 32
                        obtain ⟨f17, f31, -⟩ := hp
                        replace f17 : u 17 = (.bool false) := f17
                        replace f31 : u 31 = (.bool false) := f31
                        try simp only [f17, f31, str]
                        go_wp2
                        refine stm_v rfl Same.refl ?_
                        rw [hM.out]; first | (simp only [upd, reduceIte, Nat.reduceEqDiff, Nat.reduceAdd, List.setIfInBounds_toArray, List.set_cons_succ, List.set_cons_zero, f17, f31, str]; done) | (simp [upd, f17, f31, str, *]; done)
                    · intro M hM
                      try dsimp only at hM
                      intro u wx hI hR
                      obtain ⟨r0, r1, r2, r3, r4, r5, r6, r7, r8, r9, r10, r11, r12, r13, r14, r15, r16, r17, r18, r19, r20, r21, r22, r23, r24, r25, r26, r27, r28, r29, r30, r31, r32, -⟩ := hR
                      replace r0 : u 0 = (.pointer (some ⟨bx, 43, none⟩)) := r0
                      replace r1 : u 1 = (.bool xh) := r1
                      replace r2 : u 2 = (.bool xh) := r2
                      replace r3 : u 3 = (cond xh (.pointer (some ⟨bx, 4, none⟩)) undef) := r3
                      replace r4 : u 4 = (cond xh (.pointer (some ⟨bx, 6, none⟩)) undef) := r4
                      replace r5 : u 5 = (cond xh (.pointer (some ⟨bx, 6, none⟩)) undef) := r5
                      replace r6 : u 6 = (cond xh (.pointer (some ⟨bx, 10, none⟩)) undef) := r6
                      replace r7 : u 7 = (cond xh (.agg (bv Dh).toArray) undef) := r7
                      replace r8 : u 8 = (cond xh (.map (some bm)) undef) := r8
                      replace r9 : u 9 = (cond xh (.pointer (some ⟨bx, 4, none⟩)) undef) := r9
                      replace r10 : u 10 = (cond xh (.pointer (some ⟨bx, 6, none⟩)) undef) := r10
                      replace r11 : u 11 = (cond xh (.pointer (some ⟨bx, 6, none⟩)) undef) := r11
                      replace r12 : u 12 = (cond xh (.pointer (some ⟨bx, 8, none⟩)) undef) := r12
                      replace r13 : u 13 = (cond xh (.int .i64 X.hcert.vote.view) undef) := r13
                      replace r14 : u 14 = (cond xh (.agg (bv Dh).toArray) undef) := r14
                      replace r15 : u 15 = (cond xh (.bool false) undef) := r15
                      replace r16 : u 16 = (.bool false) := r16
                      replace r17 : u 17 = (.bool false) := r17
                      replace r18 : u 18 = (.pointer (some ⟨bx, 84, none⟩)) := r18
                      replace r19 : u 19 = (.bool xd) := r19
                      replace r20 : u 20 = (.bool xd) := r20
                      replace r21 : u 21 = (cond xd (.pointer (some ⟨bx, 44, none⟩)) undef) := r21
                      replace r22 : u 22 = (cond xd (.pointer (some ⟨bx, 47, none⟩)) undef) := r22
                      replace r23 : u 23 = (cond xd (.pointer (some ⟨bx, 47, none⟩)) undef) := r23
                      replace r24 : u 24 = (cond xd (.pointer (some ⟨bx, 51, none⟩)) undef) := r24
                      replace r25 : u 25 = (cond xd (.agg (bv Db).toArray) undef) := r25
                      replace r26 : u 26 = (cond xd (.pointer (some ⟨bx, 44, none⟩)) undef) := r26
                      replace r27 : u 27 = (cond xd (.pointer (some ⟨bx, 45, none⟩)) undef) := r27
                      replace r28 : u 28 = (cond xd (.agg X.ebat.cells.toArray) undef) := r28
                      replace r29 : u 29 = (cond xd (.agg (bv Db).toArray) undef) := r29
                      replace r30 : u 30 = (cond xd (.bool false) undef) := r30
                      replace r31 : u 31 = (.bool false) := r31
                      replace r32 : u 32 = (.bool false) := r32
                      rw [hM u]
                      clear hM
                      try simp only [str, r0, r1, r2, r3, r4, r5, r6, r7, r8, r9, r10, r11, r12, r13, r14, r15, r16, r17, r18, r19, r20, r21, r22, r23, r24, r25, r26, r27, r28, r29, r30, r31, r32]
                      clear r0 r1 r2 r3 r4 r5 r6 r7 r8 r9 r10 r11 r12 r13 r14 r15 r16 r17 r18 r19 r20 r21 r22 r23 r24 r25 r26 r27 r28 r29 r30 r31 r32
                      replace rx := Lib.hid (hI.at rx.out)
                      replace hS := Lib.hid (hI.at hS.out)
                      replace hM := Lib.hid (hM.out.same hI)
                      replace tt := Lib.hid (tt.out.trans hI)
                      clear hMt
                      clear hI hWm cXh cXd cXw pH pE pB kdg hgm hde hn1 hn2 hi1 hi2 hgd
                      have u5 := hM.out.lt
                      go_wp2_with (first | (refine load_row rfl _ _ rfl bx rfl _ _ _ _ rx.out Try.underlying42 rfl fX.out ?_) | (refine store_row rfl _ _ _ rfl bs X.cells.toArray rfl rfl _ _ hS.out fX.out szX.out (slot_one X) ?_; intro w13 hS3 hk13; replace hS3 := Lib.hid hS3; replace hk13 := Lib.hid hk13))
                      have hM3 := Lib.hid (hM.out.keep hk13.out (by omega))
                      have t3 := Lib.hid (tt.out.keep hk13.out (fun x hx hv => by omega))
                      clear rx hS hM tt hk13
                      go_roundw
                      case rel => exact ⟨j + 1, _, X, m2, by omega, by go_num, hS3.out, hM3.out, hinf3.out, hXf.out, t3.out⟩
                      case measure => simp [intOf]; omega
              · have hN1 : ((N : Int) != 0) = true := by simp [hN]
                have hXz := hbd.out hN
                clear hst hbd hN
                subst hXz
                have hzr := Lib.hid (slot_info zeroSlot_wf)
                have hof := Lib.hid (fun w => slotOf_any zeroSlot w zeroSlot_wf)
                have hss := fun w => rslotSame_any zeroSlot zeroSlot w (zeroSlot_at w) (zeroSlot_at w)
                rw [slotSame_self] at hss
                replace hss := Lib.hid hss
                go_wp2_with (refine load_row rfl _ _ rfl bx rfl _ _ _ _ rx.out Try.underlying42 rfl hzr.out ?_)
                refine (hof.out _).mono ?_
                rintro e w5 ⟨rfl, hs5⟩
                go_wp2_with (refine build_const (ty := 50) (.agg zeroSlot.cells.toArray) rfl rfl (by kernel_rfl) ?_)
                refine (hss.out _).mono ?_
                rintro e w6 ⟨rfl, hs6⟩
                have hs' := Lib.hid (hs5.trans hs6)
                clear hs5 hs6
                have hS2 := Lib.hid (hs'.out.at hS.out)
                have hM2 := Lib.hid (hM.out.same hs'.out).mono
                have t2 := Lib.hid (tt.out.trans hs'.out)
                go_wp2
                go_roundw
                case rel => exact ⟨j + 1, _, s, m, by omega, by go_num, hS2.out, hM2.out, hinvk.out, hfit.out, t2.out⟩
                case measure => simp [intOf]; omega
          · obtain rfl : j = k := by omega
            clear hlt hk
            replace tt := Lib.hid tt
            replace hS := Lib.hid hS
            replace hM := Lib.hid hM
            replace hinv := Lib.hid hinv
            replace hfit := Lib.hid hfit
            go_upto_region 37 with fail
            go_wp2_with fail
            refine (hl.out _).mono ?_
            rintro e w4 ⟨rfl, hs4⟩
            go_wp2
            go_ret
            exact ⟨rfl, hsp.out.trans (tt.out.trans hs4)⟩
  · have d60 : decide (60 < (n : Int)) = true := decide_eq_true (by omega)
    go_enter Try.func3, Try.ntmps3
    go_upto_region 2 with fail
    go_wp2_with fail
    refine (hl.out _).mono ?_
    rintro e w4 ⟨rfl, hs4⟩
    go_wp2
    go_ret
    exact ⟨rfl, hs4⟩
end Go.Proofs.Ytmacgmmjgdmleaa
namespace Go.Proofs.Ytmacgmmjgdmleaa.slotOnce
open Go Go.ChangeShapes Go.WideShapes Go.ChangeAt Go.RowKit
set_option linter.unusedVariables false
set_option maxRecDepth 100000 in
set_option maxHeartbeats 1000000 in
theorem lifted (os : Os) (started : os.Started) (H : Type) (enc : TypeId × Value → H) :
    ReturnsInHanded {} Try.checked os 3 .any (Rows.slotOnceSpec.pre6 enc Try.prog Try.f3 Rows.slotOnceRow.domain false) (Rows.slotOnceSpec.post enc Try.prog Try.f3 false true false false) := by
  refine returnsInHanded_of_change_sized (C := Try.checked) own started (by kernel_rfl) Try.func3
    (ChangeSpec.witness6 (enc := enc) (C := Try.checked) false ⟨#[], #[sacts_zero], []⟩ 8 (by kernel_rfl) (by kernel_rfl) (by kernel_rfl) (by kernel_rfl)) ?_
  intro W base args ds gs before hval0 hW hcnd hsz0 _
  have hsz : (DataW.weightsEach Try.prog (Try.f3.params.toList ++ Rows.slotOnceSpec.plain.varTypes Try.prog) (ds ++ gs)).all (· ≤ reachBytes) = true := hsz0
  have hval : ∀ (j : Nat) t v, Try.f3.params[j]? = some t → args[j]? = some v → Value.okWide Try.prog W .any base t v := hval0
  have hW' := hW
  obtain ⟨p, q, hA0, hV, rfl, hfz, hnd⟩ := hW
  have hA : DataW.TrodAll enc Try.prog W 0 (fun _ => true) true Try.f3.params.toList args.toList ds p := hA0
  rw [Try.params3] at hA hval hsz
  obtain ⟨v0, vs0, d0, ds0, p0, q0, hargs, rfl, rfl, h0, r0⟩ := trodAll_cons hA
  obtain ⟨rfl, rfl, rfl⟩ := trodAll_nil r0
  obtain rfl : args = #[v0] := by cases args; simp_all
  obtain ⟨rfl, rfl⟩ := trodVars_none hV
  have k0 := h0
  have lt0 : ∀ x ∈ p0, x.block < W.heap.size := by obtain ⟨m, hm⟩ := k0; exact DataW.trod_lt m _ _ _ hm
  obtain ⟨a0, rfl, w0⟩ := open_sacts (hval 0 22 v0 rfl rfl) h0 (fun n hn => by have z := List.all_eq_true.1 hsz n (DataW.weights_mem_each (j := 0) (t := 22) (d := d0) rfl rfl n hn); have z2 : n ≤ reachBytes := of_decide_eq_true z; simpa [reachBytes] using z2)
  clear hA0 hval0 hsz0 hsz
  refine (walk_SlotOnce W a0 w0).mono fun e W' ⟨he, bel⟩ => ?_
  subst he
  exact ⟨_, rfl, _, _, _, [], _, [], hW', trodAll_mk1 (shut_bool Try.underlying4 _), (trodAll_cons_mk (Below.trod laidOut (by kernel_rfl) (of_decide_eq_true (by kernel_rfl)) k0 bel lt0) trodAll_mk0), rfl, bel.frame _, fun h => by cases h⟩
theorem over : Rows.slotOnceRow.holds Try.pinned (OpenSpec.ofChange Rows.slotOnceSpec) :=
  OpenClaim.holds_of_wide 3 Try.f3 rfl rfl rfl rfl rfl rfl rfl ⟨rfl, rfl, rfl, rfl, rfl⟩ rfl rfl rfl rfl rfl (by kernel_rfl) Try.func3 (by kernel_rfl)
    (of_decide_eq_true (by kernel_rfl)) (by unfold Func.isWrapper; first | (rw [if_pos (by decide +kernel)]; kernel_rfl) | (rw [if_neg (by decide +kernel)]; exact ⟨rfl, rfl⟩))
    (fun os started H enc _ => lifted os started H enc)
/-- The statement. -/
theorem proved : Rows.SlotOnceSaid := over
#print axioms proved
end Go.Proofs.Ytmacgmmjgdmleaa.slotOnce
