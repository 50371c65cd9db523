/-
  A region that draws its order, in which some operations turn what others told (a row that grows in place, a reader that goes on): each operation walked once. M: the operations that turn something, and what each one leaves; K: which facts they may turn; each operation leans on the facts (A) that stand ahead of it and that nothing can have turned by then. The facts from 1000 on hold at the start.
-/
import Derived.Test.YtmacgmmjgdmleaaTails
namespace Go.Proofs.Ytmacgmmjgdmleaa
open Go Go.RowKit
set_option linter.unusedSimpArgs false
set_option linter.unusedVariables false

def clos (ops : Array Oper) : Nat → List Nat → List Nat
  | 0, S => S
  | k + 1, S => clos ops k (cond (S.contains k) (afters ops k ++ S) S)
/-- What stands ahead of an operation. -/
def anc (ops : Array Oper) (i : Nat) : List Nat := clos ops i (afters ops i)
def killsOf (K : List (Nat × List Nat)) (k : Nat) : List Nat := ((K.find? fun p => p.1 == k).map (·.2)).getD []
def killers (ops : Array Oper) (K : List (Nat × List Nat)) (k : Nat) : List Nat := (killsOf K k).filter fun j => !(j == k) && !(cond (Nat.ble 1000 k) false ((anc ops k).contains j))
def useOk (ops : Array Oper) (K : List (Nat × List Nat)) (i k : Nat) : Bool := (Nat.ble 1000 k || (anc ops i).contains k) && ((killers ops K k).all fun j => j == i || (anc ops j).contains i)
def usesOk (ops : Array Oper) (K : List (Nat × List Nat)) (A : List (List Nat)) (m : Nat) : Bool := (List.range m).all fun i => (A.getD i []).all fun k => useOk ops K i k
def endOk (ops : Array Oper) (K : List (Nat × List Nat)) (E : List Nat) (m : Nat) : Bool := E.all fun k => (Nat.ble 1000 k || decide (k < m)) && (killers ops K k).isEmpty
def relOf (M : List (Nat × (World → World → Prop))) (rel : World → World → Prop) (i : Nat) : World → World → Prop := ((M.find? fun p => p.1 == i).map (·.2)).getD rel
def onAll (R : Nat → Value → World → Prop) (u : Nat → Value) (w : World) : List Nat → Prop
  | [] => True
  | k :: l => R k (u k) w ∧ onAll R u w l
def factG (L : List (Value → World → Prop)) (G : List (World → Prop)) (i : Nat) : Value → World → Prop := cond (Nat.ble 1000 i) (fun _ w => G.getD (i - 1000) (fun _ => True) w) (factAt L i)
def hopsA (P : Program) (ops : Array Oper) (Q : Exit → Act → World → Prop) (a : Act) (ds : List (Nat × Nat)) (M : List (Nat × (World → World → Prop))) (rel : World → World → Prop) (I : World → Prop) (R : Nat → Value → World → Prop) : Nat → List (List Nat) → List Oper → Prop
  | _, _, [] => True
  | i, A, o :: l => (∀ u w, I w → onAll R u w (A.headD []) → wpList P ops (StQ Q a ds (relOf M rel i) R u i w) [o] (mkAct a ds u) w) ∧ hopsA P ops Q a ds M rel I R (i + 1) A.tail l

section
variable {P : Program} {ops : Array Oper} {Q : Exit → Act → World → Prop} {a : Act} {ds : List (Nat × Nat)} {rel : World → World → Prop} {I : World → Prop} {R : Nat → Value → World → Prop} {listed : Array Bool} {E : List Nat} {A : List (List Nat)} {M : List (Nat × (World → World → Prop))} {K : List (Nat × List Nat)}
theorem hopsA_at : ∀ (l : List Oper) (k : Nat) (A : List (List Nat)), hopsA P ops Q a ds M rel I R k A l → ∀ j o, l[j]? = some o → ∀ u w, I w → onAll R u w (A.getD j []) → wpList P ops (StQ Q a ds (relOf M rel (k + j)) R u (k + j) w) [o] (mkAct a ds u) w := by
  intro l
  induction l with
  | nil => intro k A _ j o h; simp at h
  | cons x l ih =>
    intro k A h j o hj
    rcases j with _ | j
    · simp at hj
      subst hj
      have := h.1
      rcases A with _ | ⟨b, A⟩ <;> exact this
    · have := ih (k + 1) A.tail h.2 j o (by simpa using hj)
      rw [show k + (j + 1) = k + 1 + j from by omega]
      rcases A with _ | ⟨b, A⟩
      · exact this
      · simpa using this
theorem clos_listed (hc : Closed ops listed) : ∀ (k : Nat) (S : List Nat), (∀ i ∈ S, listed.getD i false = true) → ∀ i ∈ clos ops k S, listed.getD i false = true := by
  intro k
  induction k with
  | zero => intro S h i hi; exact h i hi
  | succ k ih =>
    intro S h i hi
    refine ih _ ?_ i hi
    intro x hx
    cases hk : S.contains k with
    | false =>
      rw [hk] at hx
      exact h x hx
    | true =>
      rw [hk] at hx
      rcases List.mem_append.1 hx with hx | hx
      · exact hc k (h k (List.contains_iff_mem.1 hk)) x hx
      · exact h x hx
theorem anc_listed (hc : Closed ops listed) {i : Nat} (h : ∀ x ∈ afters ops i, listed.getD x false = true) : ∀ x ∈ anc ops i, listed.getD x false = true := clos_listed hc _ _ h
theorem onAll_of {u : Nat → Value} {w : World} : ∀ l : List Nat, (∀ k ∈ l, R k (u k) w) → onAll R u w l := by
  intro l
  induction l with
  | nil => intro _; trivial
  | cons k l ih => intro h; exact ⟨h k (List.mem_cons_self ..), ih fun x hx => h x (List.mem_cons_of_mem _ hx)⟩
/-- Nothing that may have turned fact k is done. -/
def Live (ops : Array Oper) (K : List (Nat × List Nat)) (listed : Array Bool) (k : Nat) : Prop := ∀ j ∈ killers ops K k, listed.getD j false = false
theorem live_use (hc : Closed ops listed) {i k : Nat} (hi : listed.getD i true = false) (h : useOk ops K i k = true) : Live ops K listed k := by
  intro j hj
  simp only [useOk, Bool.and_eq_true, Bool.or_eq_true, List.all_eq_true, beq_iff_eq, List.contains_iff_mem] at h
  have h2 := h.2
  cases hb : listed.getD j false with
  | false => rfl
  | true =>
    have hf : ∀ x, listed.getD x false = true → x ≠ i := by
      rintro x hx rfl
      rw [getD_ft hx] at hi
      cases hi
    rcases h2 j hj with h3 | h3
    · exact absurd h3 (hf j hb)
    · exact absurd rfl (hf i (anc_listed hc (fun x hx => hc j hb x hx) i h3))
theorem relOf_cases (M : List (Nat × (World → World → Prop))) (rel : World → World → Prop) (i : Nat) : relOf M rel i = rel ∨ (i, relOf M rel i) ∈ M := by
  unfold relOf
  cases h : M.find? (fun p => p.1 == i) with
  | none => exact .inl rfl
  | some p =>
    have h1 := List.find?_some h
    have h2 := List.mem_of_find?_eq_some h
    simp only [beq_iff_eq] at h1
    refine .inr ?_
    simp only [Option.map_some, Option.getD_some]
    rw [← h1]
    exact h2
theorem wp_region_mut {id : Nat} {w : World} (hm : P.follows .mixedOrders = true) (ds : List (Nat × Nat)) (M : List (Nat × (World → World → Prop))) (K : List (Nat × List Nat)) (E : List Nat) (A : List (List Nat)) (rel : World → World → Prop) (I : World → Prop) (G : List (World → Prop)) (L : List (Value → World → Prop))
    (hI : I w.drew) (hG : ∀ g ∈ G, g w.drew) (hrel : ∀ w w', I w → rel w w' → I w') (hrelM : ∀ m ∈ M, ∀ w w', I w → m.2 w w' → I w') (hL : ∀ p ∈ L, Stable rel p) (hGs : ∀ g ∈ G, ∀ w w', rel w w' → g w → g w')
    (hLK : ∀ m ∈ M, ∀ q ∈ L.zipIdx, (killsOf K q.2).contains m.1 = false → Stable m.2 q.1) (hGK : ∀ m ∈ M, ∀ q ∈ G.zipIdx, (killsOf K (1000 + q.2)).contains m.1 = false → ∀ w w', m.2 w w' → q.1 w → q.1 w')
    (hnd : (ds.map Prod.snd).Nodup) {l ts : List Oper} (hl : ops.toList = l ++ ts) (hord' : ordOk ops = true) (htail : tailsOk l.length ops = true)
    (huse : usesOk ops K A l.length = true) (hE : endOk ops K E l.length = true) (h1000 : l.length ≤ 1000)
    (hop : hopsA P ops Q a ds M rel I (factG L G) 0 A l)
    (hend : ∀ u w, I w → onAll (factG L G) u w E → wpList P ops Q ts (mkAct a ds u) w) : (Code.region id ops true).wp P Q a w := by
  have hord := ord_of hord'
  have hRs : ∀ k v w w', rel w w' → factG L G k v w → factG L G k v w' := by
    intro k v w w' hr hf
    unfold factG at *
    cases hk : Nat.ble 1000 k with
    | true =>
      rw [hk] at hf
      simp only [cond_true] at hf ⊢
      rcases Nat.lt_or_ge (k - 1000) G.length with hi | hi
      · simp only [List.getD_eq_getElem?_getD, List.getElem?_eq_getElem hi, Option.getD_some] at *
        exact hGs _ (List.getElem_mem hi) _ _ hr hf
      · simp [List.getD_eq_getElem?_getD, List.getElem?_eq_none hi]
    | false => rw [hk] at hf; exact facts_stable hL k v w w' hr hf
  have hRk : ∀ j r, (j, r) ∈ M → ∀ k v w w', (killsOf K k).contains j = false → r w w' → factG L G k v w → factG L G k v w' := by
    intro j r hjr k v w w' hd hr hf
    unfold factG at *
    cases hk : Nat.ble 1000 k with
    | true =>
      rw [hk] at hf
      simp only [cond_true] at hf ⊢
      have hk' : 1000 ≤ k := Nat.le_of_ble_eq_true hk
      rcases Nat.lt_or_ge (k - 1000) G.length with hi | hi
      · simp only [List.getD_eq_getElem?_getD, List.getElem?_eq_getElem hi, Option.getD_some] at *
        exact hGK _ hjr (G[k - 1000], k - 1000) (List.mem_zipIdx_iff_getElem?.2 (List.getElem?_eq_getElem hi)) (by rw [show 1000 + (k - 1000) = k from by omega]; exact hd) _ _ hr hf
      · simp [List.getD_eq_getElem?_getD, List.getElem?_eq_none hi]
    | false =>
      rw [hk] at hf
      simp only [cond_false] at hf ⊢
      unfold factAt at *
      rcases Nat.lt_or_ge k L.length with hi | hi
      · simp only [List.getD_eq_getElem?_getD, List.getElem?_eq_getElem hi, Option.getD_some] at *
        exact hLK _ hjr (L[k], k) (List.mem_zipIdx_iff_getElem?.2 (List.getElem?_eq_getElem hi)) hd v w w' hr hf
      · simp [List.getD_eq_getElem?_getD, List.getElem?_eq_none hi]
  have hsz : ops.size = l.length + ts.length := by
    have := congrArg List.length hl
    simpa using this
  have hmk : ∀ j, l.length ≤ j → j < ops.size → mark ops j (afters ops j) = true := by
    intro j h1 h2
    have h3 := List.all_eq_true.1 htail j (List.mem_range.2 h2)
    simp only [Bool.or_eq_true, decide_eq_true_eq] at h3
    exact h3.resolve_left (by omega)
  have hts : ∀ j, j < ts.length → ops[l.length + j]? = ts[j]? := by
    intro j hj
    have : ops.toList[l.length + j]? = ts[j]? := by rw [hl, List.getElem?_append_right (by omega), Nat.add_sub_cancel_left]
    simpa using this
  have hends : ∀ (listed : Array Bool) (u : Nat → Value) (w : World), (∀ j, j < l.length → listed.getD j false = true) → I w → (∀ k, (1000 ≤ k ∨ k < l.length ∧ listed.getD k false = true) → Live ops K listed k → factG L G k (u k) w) → wpList P ops Q ts (mkAct a ds u) w := by
    intro listed u w hall hI hf
    refine hend u w hI (onAll_of _ fun k hk => ?_)
    have h1 := List.all_eq_true.1 hE k hk
    simp only [Bool.and_eq_true, Bool.or_eq_true, decide_eq_true_eq, Nat.ble_eq] at h1
    refine hf k ?_ ?_
    · rcases h1.1 with h | h
      · exact .inl h
      · exact .inr ⟨h, hall k h⟩
    · intro j hj
      rw [List.isEmpty_iff.1 h1.2] at hj
      cases hj
  have key : ∀ (fuel : Nat) (listed : Array Bool) (u : Nat → Value) (w : World), listed.size = ops.size → ((listed.toList.take l.length).filter (fun x => !x)).length + ts.length ≤ fuel → (∀ j, l.length ≤ j → listed.getD j false = false) → Closed ops listed → I w → (∀ k, (1000 ≤ k ∨ k < l.length ∧ listed.getD k false = true) → Live ops K listed k → factG L G k (u k) w) → wpAny P .any ops Q fuel listed (mkAct a ds u) w := by
    intro fuel
    induction fuel with
    | zero =>
      intro listed u w hs hf hu hc hI hlR
      have hall : ∀ j, j < l.length → listed.getD j false = true := by
        intro j hj
        have h0 : (listed.toList.take l.length).filter (fun x => !x) = [] := List.eq_nil_of_length_eq_zero (by omega)
        have hjl : j < listed.size := by omega
        cases hb : listed[j] with
        | true => simp [Array.getD_eq_getD_getElem?, Array.getElem?_eq_getElem hjl, hb]
        | false =>
          have : false ∈ (listed.toList.take l.length).filter (fun x => !x) := List.mem_filter.2 ⟨by
            rw [← hb]
            exact List.mem_take_iff_getElem.2 ⟨j, by simp; omega, by simp⟩, rfl⟩
          rw [h0] at this
          cases this
      exact tail_any hord ts 0 l.length listed _ w hs (by omega) hts hall hu hc hmk (hends listed u w hall hI hlR) (by omega)
    | succ fuel ih =>
      intro listed u w hs hf hu hc hI hlR
      by_cases hall : ∀ j, j < l.length → listed.getD j false = true
      · exact tail_any hord ts (fuel + 1) l.length listed _ w hs (by omega) hts hall hu hc hmk (hends listed u w hall hI hlR) (by omega)
      · refine ⟨fun h => ?_, ?_⟩
        · exfalso
          exact hall fun j hj => getD_tf (by omega) (none_ready hs hord h j (by omega))
        · intro i hi
          obtain ⟨hli, o', ho, hpre⟩ := ready_spec hi
          have hil : i < ops.size := (Array.getElem?_eq_some_iff.1 ho).1
          have hil2 : i < l.length := by
            rcases Nat.lt_or_ge i l.length with h | h
            · exact h
            · exact absurd (fun j hj => mark_all hc i _ (ready_afters hi) (hmk i h hil) j (by omega)) hall
          have hcount : ∀ (l : List Bool) (i : Nat), l[i]? = some false → ((l.set i true).filter (fun x => !x)).length + 1 = (l.filter (fun x => !x)).length := by
            intro l
            induction l with
            | nil => intro i h; simp at h
            | cons x l ih =>
              intro i h
              rcases i with _ | i
              · simp at h
                subst h
                simp
              · simp only [List.getElem?_cons_succ] at h
                have := ih i h
                simp only [List.set_cons_succ, List.filter_cons]
                cases x
                · simp only [Bool.not_false, if_true, List.length_cons]
                  omega
                · simp only [Bool.not_true, Bool.false_eq_true, if_false]
                  exact this
          have hlt : i < listed.size := by omega
          have hb : listed[i] = false := by
            simp only [Array.getD_eq_getD_getElem?, Array.getElem?_eq_getElem hlt, Option.getD_some] at hli
            exact hli
          have e1 : (listed.setIfInBounds i true).toList.take l.length = (listed.toList.take l.length).set i true := by
            rw [Array.toList_setIfInBounds, List.take_set]
          have hc2 := hcount (listed.toList.take l.length) i (by rw [List.getElem?_take, if_pos hil2, Array.getElem?_toList, Array.getElem?_eq_getElem hlt, hb])
          have hoi : l[i]? = some o' := by
            have : ops.toList[i]? = some o' := by simpa using ho
            rw [hl, List.getElem?_append_left hil2] at this
            exact this
          have hanc := anc_listed hc (ready_afters hi)
          have hu2 := List.all_eq_true.1 (List.all_eq_true.1 huse i (List.mem_range.2 hil2))
          have hop1 := hopsA_at l 0 A hop i o' hoi u w hI (onAll_of _ fun k hk => by
            have h1 := hu2 k hk
            refine hlR k ?_ (live_use hc hli h1)
            simp only [useOk, Bool.and_eq_true, Bool.or_eq_true, Nat.ble_eq, List.contains_iff_mem] at h1
            rcases h1.1 with h2 | h2
            · exact .inl h2
            · have h3 := hanc k h2
              refine .inr ⟨?_, h3⟩
              rcases Nat.lt_or_ge k l.length with h | h
              · exact h
              · rw [hu k h] at h3
                cases h3)
          rw [Nat.zero_add] at hop1
          refine wpOp_of ho hop1 ?_ ?_
          · rintro a' w' ⟨v, rfl, hRi, hr⟩
            refine ih _ _ w' (by simp [hs]) (by rw [e1]; omega) ?_ (hc.set hlt (ready_afters hi)) ?_ ?_
            · intro j hj
              rw [set_get hlt, if_neg (by omega)]
              exact hu j hj
            · rcases relOf_cases M rel (0 + i) with h | h
              · rw [Nat.zero_add] at h; rw [h] at hr; exact hrel _ _ hI hr
              · rw [Nat.zero_add] at h; exact hrelM _ h _ _ hI hr
            · intro k hk hlive
              by_cases hki : k = i
              · subst hki
                rw [upd_same]
                exact hRi
              · rw [upd_other _ _ hki]
                have hk' : 1000 ≤ k ∨ k < l.length ∧ listed.getD k false = true := by
                  rcases hk with hk | ⟨h1, h2⟩
                  · exact .inl hk
                  · rw [set_get hlt, if_neg hki] at h2
                    exact .inr ⟨h1, h2⟩
                have hlive' : Live ops K listed k := by
                  intro j hj
                  have := hlive j hj
                  rw [set_get hlt] at this
                  split at this
                  · cases this
                  · exact this
                have hold := hlR k hk' hlive'
                rcases relOf_cases M rel i with h | h
                · rw [h] at hr; exact hRs _ _ _ _ hr hold
                · cases hkc : (killsOf K k).contains i with
                  | false => exact hRk i _ h _ _ _ _ hkc hr hold
                  | true =>
                    exfalso
                    have hkill : i ∈ killers ops K k := by
                      refine List.mem_filter.2 ⟨List.contains_iff_mem.1 hkc, ?_⟩
                      have h1 : (i == k) = false := by simpa using fun h => hki h.symm
                      rw [h1]
                      cases hkb : Nat.ble 1000 k with
                      | true => rfl
                      | false =>
                        simp only [cond_false, Bool.not_false, Bool.true_and, Bool.not_eq_true']
                        cases hca : (anc ops k).contains i with
                        | false => rfl
                        | true =>
                          exfalso
                          have hkn : ¬ 1000 ≤ k := by
                            intro h
                            rw [Nat.ble_eq_true_of_le h] at hkb
                            cases hkb
                          have hkl := (hk'.resolve_left hkn).2
                          have := anc_listed hc (fun x hx => hc k hkl x hx) i (List.contains_iff_mem.1 hca)
                          rw [getD_ft this] at hli
                          cases hli
                    have := hlive i hkill
                    rw [set_get hlt, if_pos rfl] at this
                    cases this
          · intro e a' w' he h
            cases e <;> first | exact absurd rfl he | exact h
  rw [mkAct_own a ds hnd]
  refine wp_region_any hm (key _ _ _ _ (by simp) ?_ ?_ ?_ hI ?_)
  · have : ((Array.replicate ops.size false).toList.take l.length).length ≤ l.length := List.length_take_le _ _
    have h2 := List.length_filter_le (fun x => !x) ((Array.replicate ops.size false).toList.take l.length)
    omega
  · intro j _
    simp only [Array.getD_eq_getD_getElem?, Array.getElem?_replicate]
    split <;> rfl
  · intro j hj
    simp only [Array.getD_eq_getD_getElem?, Array.getElem?_replicate] at hj
    split at hj <;> simp at hj
  · intro k hk _
    rcases hk with hk' | ⟨_, hk⟩
    · unfold factG
      rw [Nat.ble_eq_true_of_le hk']
      simp only [cond_true]
      rcases Nat.lt_or_ge (k - 1000) G.length with hi | hi
      · simp only [List.getD_eq_getElem?_getD, List.getElem?_eq_getElem hi, Option.getD_some]
        exact hG _ (List.getElem_mem hi)
      · simp [List.getD_eq_getElem?_getD, List.getElem?_eq_none hi]
    · simp only [Array.getD_eq_getD_getElem?, Array.getElem?_replicate] at hk
      split at hk <;> simp at hk
end
section
variable {Q : Exit → Act → World → Prop} {a : Act} {ds : List (Nat × Nat)} {rel : World → World → Prop} {R : Nat → Value → World → Prop}
theorem stg_v {u : Nat → Value} {i : Nat} {w w' : World} {a' : Act} {x : Value} (hx : R i x w') (hr : rel w w') (ha : a' = mkAct a ds (upd u i x)) : StQ Q a ds rel R u i w .normal a' w' := ⟨x, ha, hx, hr⟩
end
/-- It is a row of the call's own. -/
def isOwn (base n : Nat) (xs : List Value) : Value → World → Prop := fun v w => Own w base 5 1 v n xs
theorem isOwn_stable (base n : Nat) (xs : List Value) : Stable Same (isOwn base n xs) := fun _ _ _ k h => h.same k
end Go.Proofs.Ytmacgmmjgdmleaa
