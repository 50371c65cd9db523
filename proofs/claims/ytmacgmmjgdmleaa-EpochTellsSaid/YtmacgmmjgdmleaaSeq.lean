/-
  A region that does not draw, walked once an operation: what each operation's slot holds is told by a fact that later operations cannot turn; so the walk of a great region costs the sum of its operations' walks.
-/
import Derived.Test.YtmacgmmjgdmleaaMut
namespace Go.Proofs.Ytmacgmmjgdmleaa
open Go Go.RowKit
set_option linter.unusedSimpArgs false
set_option linter.unusedVariables false

def hopsS (P : Program) (ops : Array Oper) (Q : Exit → Act → World → Prop) (a : Act) (ds : List (Nat × Nat)) (rel : World → World → Prop) (I : World → Prop) (R : Nat → Value → World → Prop) : Nat → List (List Nat) → List Oper → Prop
  | _, _, [] => True
  | i, A, o :: l => (∀ u w, I w → onAll R u w (A.headD []) → wpList P ops (StQ Q a ds rel R u i w) [o] (mkAct a ds u) w) ∧ hopsS P ops Q a ds rel I R (i + 1) A.tail l
def seqOk : Nat → List (List Nat) → List Oper → Bool
  | _, _, [] => true
  | i, A, _ :: l => (A.headD []).all (fun k => Nat.blt k i) && seqOk (i + 1) A.tail l
section
variable {P : Program} {ops : Array Oper} {Q : Exit → Act → World → Prop} {a : Act} {ds : List (Nat × Nat)} {rel : World → World → Prop} {I : World → Prop} {R : Nat → Value → World → Prop}
theorem wpList_then {o : Oper} {rest : List Oper} {Q' : Exit → Act → World → Prop} {a : Act} {w : World} (h : wpList P ops Q' [o] a w) (hn : ∀ a w, Q' .normal a w → wpList P ops Q rest a w) (hq : ∀ e a w, e ≠ .normal → Q' e a w → Q e a w) : wpList P ops Q (o :: rest) a w := by
  unfold wpList at h ⊢
  have hout : LetsOut Q' → LetsOut Q := fun ⟨a, w, h⟩ => ⟨a, w, hq _ _ _ (by simp) h⟩
  by_cases hw : Region.wanted o (yielded ops a.tmps) = true
  · simp only [hw, if_true] at h ⊢
    rcases h with h | ⟨h1, h2⟩
    · refine .inl ?_
      unfold Oper.wp at h ⊢
      generalize (execOp a.eval o).run P w = r at *
      cases r with
      | ok n w' =>
        cases n <;> simp only [Oper.upon] at h ⊢ <;>
          first
            | exact hn _ _ h
            | exact Calls.mono h (fun e w'' he => by cases e <;> first | exact hn _ _ he | exact hq _ _ _ (by simp) he | exact hout he)
            | exact Rows.mono h (fun _ _ he => hn _ _ he)
      | halt x w' => cases x <;> simp only [Oper.upon] at h ⊢ <;> exact hq _ _ _ (by simp) h
    · exact .inr ⟨h1, hout h2⟩
  · simp only [hw, if_false, Bool.false_eq_true] at h ⊢
    exact hn _ _ h
theorem wp_seq (hR : ∀ i v w w', rel w w' → R i v w → R i v w') (hrel : ∀ w w', I w → rel w w' → I w') : ∀ (l : List Oper) (i : Nat) (A : List (List Nat)) (u : Nat → Value) (w : World), seqOk i A l = true → (∀ k, k < i → R k (u k) w) → I w → hopsS P ops Q a ds rel I R i A l →
    (∀ u w, I w → (∀ k, k < i + l.length → R k (u k) w) → Q .normal (mkAct a ds u) w) → wpList P ops Q l (mkAct a ds u) w := by
  intro l
  induction l with
  | nil => intro i A u w _ hf hI _ hend; exact hend u w hI hf
  | cons o l ih =>
    intro i A u w hok hf hI hop hend
    simp only [seqOk, Bool.and_eq_true, List.all_eq_true] at hok
    refine wpList_then (hop.1 u w hI (onAll_of _ fun k hk => hf k (Nat.le_of_ble_eq_true (hok.1 k hk)))) ?_ ?_
    · rintro a' w' ⟨v, rfl, hv, hr⟩
      refine ih (i + 1) A.tail (upd u i v) w' hok.2 ?_ (hrel _ _ hI hr) hop.2 ?_
      · intro k hk
        by_cases e : k = i
        · subst e
          rw [upd_same]
          exact hv
        · rw [upd_other _ _ e]
          exact hR _ _ _ _ hr (hf k (by omega))
      · intro u w hI hf
        exact hend u w hI (fun k hk => hf k (by simp only [List.length_cons] at hk; omega))
    · intro e a' w' he h
      cases e <;> first | exact absurd rfl he | exact h
theorem wp_region_seq {id : Nat} {w : World} (ds : List (Nat × Nat)) (A : List (List Nat)) (rel : World → World → Prop) (I : World → Prop) (L : List (Value → World → Prop)) (hI : I w) (hrel : ∀ w w', I w → rel w w' → I w') (hL : ∀ p ∈ L, Stable rel p) (hnd : (ds.map Prod.snd).Nodup)
    {l : List Oper} (hl : ops.toList = l) (hA : seqOk 0 A l = true) (hop : hopsS P ops Q a ds rel I (factAt L) 0 A l) (hend : ∀ u w, I w → allR (factAt L) u w 0 l.length → wpList P ops Q [] (mkAct a ds u) w) : (Code.region id ops false).wp P Q a w := by
  refine wp_region_list ?_
  rw [hl, mkAct_own a ds hnd]
  have key := wp_seq (P := P) (ops := ops) (Q := Q) (a := a) (ds := ds) (facts_stable hL) hrel l 0 A (ownU a ds) w hA (fun k hk => by omega) hI
  rw [← mkAct_own a ds hnd] at key ⊢
  refine key hop ?_
  intro u w hI hf
  exact hend u w hI (allR_of _ _ fun j h1 h2 => hf j h2)
end
/-- What an operation leaves; the frame as M tells. -/
def StM (Q : Exit → Act → World → Prop) (M : (Nat → Value) → Act) (rel : World → World → Prop) (R : Nat → Value → World → Prop) (u : Nat → Value) (i : Nat) (w : World) : Exit → Act → World → Prop
  | .normal, a', w' => ∃ v, a' = M (upd u i v) ∧ R i v w' ∧ rel w w'
  | e, a', w' => Q e a' w'
def hopsM (P : Program) (ops : Array Oper) (Q : Exit → Act → World → Prop) (M : (Nat → Value) → Act) (rel : World → World → Prop) (I : World → Prop) (R : Nat → Value → World → Prop) : Nat → List Oper → Prop
  | _, [] => True
  | i, o :: l => (∀ u w, I w → preds R u w o.after.toList → wpList P ops (StM Q M rel R u i w) [o] (M u) w) ∧ hopsM P ops Q M rel I R (i + 1) l
section
variable {P : Program} {ops : Array Oper} {Q : Exit → Act → World → Prop} {a : Act} {ds : List (Nat × Nat)} {rel : World → World → Prop} {I : World → Prop} {R : Nat → Value → World → Prop}
theorem hops_of : ∀ (l : List Oper) (i : Nat), hopsM P ops Q (mkAct a ds) rel I R i l → hops P ops Q a ds rel I R i l := by
  intro l
  induction l with
  | nil => intro i _; trivial
  | cons o l ih =>
    intro i h
    refine ⟨fun u w hI hp => ?_, ih _ h.2⟩
    have e : StM Q (mkAct a ds) rel R u i w = StQ Q a ds rel R u i w := by funext e; cases e <;> rfl
    rw [← e]
    exact h.1 u w hI hp
/-- Many operations: the frame is told once, and hidden. -/
theorem wp_region_lastM {id : Nat} {w : World} (hm : P.follows .mixedOrders = true) (ds : List (Nat × Nat)) (rel : World → World → Prop) (I : World → Prop) (L : List (Value → World → Prop))
    (hI : I w.drew) (hrel : ∀ w w', I w → rel w w' → I w') (hL : ∀ p ∈ L, Stable rel p) (hnd : (ds.map Prod.snd).Nodup) {l : List Oper} {o : Oper} (hl : ops.toList = l ++ [o]) (hord : ordOk ops = true) (hlast : lastOk l.length o = true)
    {E : (Nat → Value) → Act} (hE : ∀ u, mkAct a ds u = E u)
    (hop : ∀ M : (Nat → Value) → Act, (∀ u, M u = E u) → hopsM P ops Q M rel I (factAt L) 0 l)
    (hend : ∀ M : (Nat → Value) → Act, (∀ u, M u = E u) → ∀ u w, I w → allR (factAt L) u w 0 l.length → wpList P ops Q [o] (M u) w) : (Code.region id ops true).wp P Q a w :=
  wp_region_last hm ds rel I L hI hrel hL hnd hl hord hlast (hops_of _ _ (hop _ hE)) (hend _ hE)
theorem wpList_act {M E : (Nat → Value) → Act} (h : ∀ u, M u = E u) {l : List Oper} {u : Nat → Value} {w : World} (k : wpList P ops Q l (E u) w) : wpList P ops Q l (M u) w := by
  rw [h]
  exact k
theorem stm_v {M : (Nat → Value) → Act} {L : List (Value → World → Prop)} {u : Nat → Value} {i : Nat} {w w' : World} {a' : Act} {x : Value} (hx : factAt L i = isV x) (hr : rel w w') (ha : a' = M (upd u i x)) : StM Q M rel (factAt L) u i w .normal a' w' :=
  ⟨x, ha, by rw [hx]; rfl, hr⟩
theorem stm_x {M : (Nat → Value) → Act} {L : List (Value → World → Prop)} {u : Nat → Value} {i : Nat} {w w' : World} {a' : Act} (x : Value) {p : Value → World → Prop} (hx : factAt L i = p) (hp : p x w') (hr : rel w w') (ha : a' = M (upd u i x)) : StM Q M rel (factAt L) u i w .normal a' w' :=
  ⟨x, ha, by rw [hx]; exact hp, hr⟩
end
end Go.Proofs.Ytmacgmmjgdmleaa
