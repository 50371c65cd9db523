/-
  A region that draws its order, in which some operations turn what others told (a row that grows in place, a reader that goes on): each operation walked once. J: the operations that turn something; D: the facts that they may turn; each operation leans on the facts (A) that stand ahead of it and that nothing can have turned by then.
-/
import Derived.Test.YtejdiganmghopaaTails
namespace Go.Proofs.Ytejdiganmghopaa
open Go Go.RowKit
set_option linter.unusedSimpArgs false
set_option linter.unusedVariables false

def clos (ops : Array Oper) : Nat → List Nat → List Nat
  | 0, S => S
  | k + 1, S => clos ops k (cond (S.contains k) (afters ops k ++ S) S)
/-- What stands ahead of an operation. -/
def anc (ops : Array Oper) (i : Nat) : List Nat := clos ops i (afters ops i)
def killers (ops : Array Oper) (J : List Nat) (k : Nat) : List Nat := J.filter fun j => !(j == k) && !(cond (k == 1000) false ((anc ops k).contains j))
def useOk (ops : Array Oper) (J D : List Nat) (i k : Nat) : Bool := (k == 1000 || (anc ops i).contains k) && (!(k == 1000 || D.contains k) || (killers ops J k).all fun j => j == i || (anc ops j).contains i)
def usesOk (ops : Array Oper) (J D : List Nat) (A : List (List Nat)) (m : Nat) : Bool := (List.range m).all fun i => (A.getD i []).all fun k => useOk ops J D i k
def endOk (ops : Array Oper) (J D E : List Nat) (m : Nat) : Bool := E.all fun k => (k == 1000 || decide (k < m)) && (!(k == 1000 || D.contains k) || (killers ops J k).isEmpty)
def relOf (J : List Nat) (rel relK : World → World → Prop) (i : Nat) : World → World → Prop := cond (J.contains i) relK rel
def onAll (R : Nat → Value → World → Prop) (u : Nat → Value) (w : World) : List Nat → Prop
  | [] => True
  | k :: l => R k (u k) w ∧ onAll R u w l
def factG (L : List (Value → World → Prop)) (G : World → Prop) (i : Nat) : Value → World → Prop := cond (i == 1000) (fun _ w => G w) (factAt L i)
def hopsA (P : Program) (ops : Array Oper) (Q : Exit → Act → World → Prop) (a : Act) (ds : List (Nat × Nat)) (J : List Nat) (rel relK : World → World → Prop) (I : World → Prop) (R : Nat → Value → World → Prop) : Nat → List (List Nat) → List Oper → Prop
  | _, _, [] => True
  | i, A, o :: l => (∀ u w, I w → onAll R u w (A.headD []) → wpList P ops (StQ Q a ds (relOf J rel relK i) R u i w) [o] (mkAct a ds u) w) ∧ hopsA P ops Q a ds J rel relK I R (i + 1) A.tail l

section
variable {P : Program} {ops : Array Oper} {Q : Exit → Act → World → Prop} {a : Act} {ds : List (Nat × Nat)} {rel relK : World → World → Prop} {I : World → Prop} {R : Nat → Value → World → Prop} {listed : Array Bool} {J D E : List Nat} {A : List (List Nat)}
theorem hopsA_at : ∀ (l : List Oper) (k : Nat) (A : List (List Nat)), hopsA P ops Q a ds J rel relK I R k A l → ∀ j o, l[j]? = some o → ∀ u w, I w → onAll R u w (A.getD j []) → wpList P ops (StQ Q a ds (relOf J rel relK (k + j)) R u (k + j) w) [o] (mkAct a ds u) w := by
  intro l
  induction l with
  | nil => intro k A _ j o h; simp at h
  | cons x l ih =>
    intro k A h j o hj
    rcases j with _ | j
    · simp at hj
      subst hj
      have := h.1
      rcases A with _ | ⟨b, A⟩ <;> exact this
    · have := ih (k + 1) A.tail h.2 j o (by simpa using hj)
      rw [show k + (j + 1) = k + 1 + j from by omega]
      rcases A with _ | ⟨b, A⟩
      · exact this
      · simpa using this
theorem clos_listed (hc : Closed ops listed) : ∀ (k : Nat) (S : List Nat), (∀ i ∈ S, listed.getD i false = true) → ∀ i ∈ clos ops k S, listed.getD i false = true := by
  intro k
  induction k with
  | zero => intro S h i hi; exact h i hi
  | succ k ih =>
    intro S h i hi
    refine ih _ ?_ i hi
    intro x hx
    cases hk : S.contains k with
    | false =>
      rw [hk] at hx
      exact h x hx
    | true =>
      rw [hk] at hx
      rcases List.mem_append.1 hx with hx | hx
      · exact hc k (h k (List.contains_iff_mem.1 hk)) x hx
      · exact h x hx
theorem anc_listed (hc : Closed ops listed) {i : Nat} (h : ∀ x ∈ afters ops i, listed.getD x false = true) : ∀ x ∈ anc ops i, listed.getD x false = true := clos_listed hc _ _ h
theorem onAll_of {u : Nat → Value} {w : World} : ∀ l : List Nat, (∀ k ∈ l, R k (u k) w) → onAll R u w l := by
  intro l
  induction l with
  | nil => intro _; trivial
  | cons k l ih => intro h; exact ⟨h k (List.mem_cons_self ..), ih fun x hx => h x (List.mem_cons_of_mem _ hx)⟩
/-- Nothing that may have turned fact k is done. -/
def Live (ops : Array Oper) (J D : List Nat) (listed : Array Bool) (k : Nat) : Prop := (k = 1000 ∨ k ∈ D) → ∀ j ∈ killers ops J k, listed.getD j false = false
theorem live_use (hc : Closed ops listed) {i k : Nat} (hi : listed.getD i true = false) (h : useOk ops J D i k = true) : Live ops J D listed k := by
  intro hk j hj
  simp only [useOk, Bool.and_eq_true, Bool.or_eq_true, Bool.not_eq_true', Bool.or_eq_false_iff, beq_eq_false_iff_ne, List.all_eq_true, beq_iff_eq, List.contains_iff_mem] at h
  have h2 := h.2
  rcases h2 with h2 | h2
  · exfalso
    rcases hk with hk | hk
    · exact h2.1 hk
    · have := h2.2
      rw [List.contains_iff_mem.2 hk] at this
      cases this
  · cases hb : listed.getD j false with
    | false => rfl
    | true =>
      have hf : ∀ x, listed.getD x false = true → x ≠ i := by
        rintro x hx rfl
        rw [getD_ft hx] at hi
        cases hi
      rcases h2 j hj with h3 | h3
      · exact absurd h3 (hf j hb)
      · exact absurd rfl (hf i (anc_listed hc (fun x hx => hc j hb x hx) i h3))
theorem wp_region_mut {id : Nat} {w : World} (hm : P.follows .mixedOrders = true) (ds : List (Nat × Nat)) (J D E : List Nat) (A : List (List Nat)) (rel relK : World → World → Prop) (I G : World → Prop) (L : List (Value → World → Prop))
    (hI : I w.drew) (hG : G w.drew) (hrel : ∀ w w', I w → rel w w' → I w') (hrelK : ∀ w w', I w → relK w w' → I w') (hL : ∀ p ∈ L, Stable rel p) (hGs : ∀ w w', rel w w' → G w → G w')
    (hLK : ∀ i p, L[i]? = some p → D.contains i = false → Stable relK p) (hnd : (ds.map Prod.snd).Nodup) {l ts : List Oper} (hl : ops.toList = l ++ ts) (hord' : ordOk ops = true) (htail : tailsOk l.length ops = true)
    (hJ : J.all (fun j => decide (j < l.length)) = true) (huse : usesOk ops J D A l.length = true) (hE : endOk ops J D E l.length = true) (h1000 : l.length ≤ 1000)
    (hop : hopsA P ops Q a ds J rel relK I (factG L G) 0 A l)
    (hend : ∀ u w, I w → onAll (factG L G) u w E → wpList P ops Q ts (mkAct a ds u) w) : (Code.region id ops true).wp P Q a w := by
  have hord := ord_of hord'
  have hRs : ∀ k v w w', rel w w' → factG L G k v w → factG L G k v w' := by
    intro k v w w' hr hf
    unfold factG at *
    cases hk : k == 1000 with
    | true => rw [hk] at hf; exact hGs _ _ hr hf
    | false => rw [hk] at hf; exact facts_stable hL k v w w' hr hf
  have hRk : ∀ k v w w', k ≠ 1000 → k ∉ D → relK w w' → factG L G k v w → factG L G k v w' := by
    intro k v w w' hk hd hr hf
    have hkb : (k == 1000) = false := by simpa using hk
    unfold factG at *
    rw [hkb] at hf ⊢
    simp only [cond_false] at hf ⊢
    unfold factAt at *
    rcases Nat.lt_or_ge k L.length with hi | hi
    · simp only [List.getD_eq_getElem?_getD, List.getElem?_eq_getElem hi, Option.getD_some] at *
      refine hLK k _ (List.getElem?_eq_getElem hi) ?_ v w w' hr hf
      cases hb : D.contains k with
      | false => rfl
      | true => exact absurd (List.contains_iff_mem.1 hb) hd
    · simp [List.getD_eq_getElem?_getD, List.getElem?_eq_none hi]
  have hsz : ops.size = l.length + ts.length := by
    have := congrArg List.length hl
    simpa using this
  have hmk : ∀ j, l.length ≤ j → j < ops.size → mark ops j (afters ops j) = true := by
    intro j h1 h2
    have h3 := List.all_eq_true.1 htail j (List.mem_range.2 h2)
    simp only [Bool.or_eq_true, decide_eq_true_eq] at h3
    exact h3.resolve_left (by omega)
  have hts : ∀ j, j < ts.length → ops[l.length + j]? = ts[j]? := by
    intro j hj
    have : ops.toList[l.length + j]? = ts[j]? := by rw [hl, List.getElem?_append_right (by omega), Nat.add_sub_cancel_left]
    simpa using this
  have hends : ∀ (listed : Array Bool) (u : Nat → Value) (w : World), (∀ j, j < l.length → listed.getD j false = true) → I w → (∀ k, (k = 1000 ∨ k < l.length ∧ listed.getD k false = true) → Live ops J D listed k → factG L G k (u k) w) → wpList P ops Q ts (mkAct a ds u) w := by
    intro listed u w hall hI hf
    refine hend u w hI (onAll_of _ fun k hk => ?_)
    have h1 := List.all_eq_true.1 hE k hk
    simp only [Bool.and_eq_true, Bool.or_eq_true, Bool.not_eq_true', Bool.or_eq_false_iff, beq_eq_false_iff_ne, decide_eq_true_eq, beq_iff_eq] at h1
    refine hf k ?_ ?_
    · rcases h1.1 with h | h
      · exact .inl h
      · exact .inr ⟨h, hall k h⟩
    · intro hd j hj
      rcases h1.2 with h | h
      · rcases hd with hd | hd
        · exact absurd hd h.1
        · rw [List.contains_iff_mem.2 hd] at h
          exact absurd h.2 (by simp)
      · rw [List.isEmpty_iff] at h
        rw [h] at hj
        cases hj
  have key : ∀ (fuel : Nat) (listed : Array Bool) (u : Nat → Value) (w : World), listed.size = ops.size → ((listed.toList.take l.length).filter (fun x => !x)).length + ts.length ≤ fuel → (∀ j, l.length ≤ j → listed.getD j false = false) → Closed ops listed → I w → (∀ k, (k = 1000 ∨ k < l.length ∧ listed.getD k false = true) → Live ops J D listed k → factG L G k (u k) w) → wpAny P .any ops Q fuel listed (mkAct a ds u) w := by
    intro fuel
    induction fuel with
    | zero =>
      intro listed u w hs hf hu hc hI hlR
      have hall : ∀ j, j < l.length → listed.getD j false = true := by
        intro j hj
        have h0 : (listed.toList.take l.length).filter (fun x => !x) = [] := List.eq_nil_of_length_eq_zero (by omega)
        have hjl : j < listed.size := by omega
        cases hb : listed[j] with
        | true => simp [Array.getD_eq_getD_getElem?, Array.getElem?_eq_getElem hjl, hb]
        | false =>
          have : false ∈ (listed.toList.take l.length).filter (fun x => !x) := List.mem_filter.2 ⟨by
            rw [← hb]
            exact List.mem_take_iff_getElem.2 ⟨j, by simp; omega, by simp⟩, rfl⟩
          rw [h0] at this
          cases this
      exact tail_any hord ts 0 l.length listed _ w hs (by omega) hts hall hu hc hmk (hends listed u w hall hI hlR) (by omega)
    | succ fuel ih =>
      intro listed u w hs hf hu hc hI hlR
      by_cases hall : ∀ j, j < l.length → listed.getD j false = true
      · exact tail_any hord ts (fuel + 1) l.length listed _ w hs (by omega) hts hall hu hc hmk (hends listed u w hall hI hlR) (by omega)
      · refine ⟨fun h => ?_, ?_⟩
        · exfalso
          exact hall fun j hj => getD_tf (by omega) (none_ready hs hord h j (by omega))
        · intro i hi
          obtain ⟨hli, o', ho, hpre⟩ := ready_spec hi
          have hil : i < ops.size := (Array.getElem?_eq_some_iff.1 ho).1
          have hil2 : i < l.length := by
            rcases Nat.lt_or_ge i l.length with h | h
            · exact h
            · exact absurd (fun j hj => mark_all hc i _ (ready_afters hi) (hmk i h hil) j (by omega)) hall
          have hcount : ∀ (l : List Bool) (i : Nat), l[i]? = some false → ((l.set i true).filter (fun x => !x)).length + 1 = (l.filter (fun x => !x)).length := by
            intro l
            induction l with
            | nil => intro i h; simp at h
            | cons x l ih =>
              intro i h
              rcases i with _ | i
              · simp at h
                subst h
                simp
              · simp only [List.getElem?_cons_succ] at h
                have := ih i h
                simp only [List.set_cons_succ, List.filter_cons]
                cases x
                · simp only [Bool.not_false, if_true, List.length_cons]
                  omega
                · simp only [Bool.not_true, Bool.false_eq_true, if_false]
                  exact this
          have hlt : i < listed.size := by omega
          have hb : listed[i] = false := by
            simp only [Array.getD_eq_getD_getElem?, Array.getElem?_eq_getElem hlt, Option.getD_some] at hli
            exact hli
          have e1 : (listed.setIfInBounds i true).toList.take l.length = (listed.toList.take l.length).set i true := by
            rw [Array.toList_setIfInBounds, List.take_set]
          have hc2 := hcount (listed.toList.take l.length) i (by rw [List.getElem?_take, if_pos hil2, Array.getElem?_toList, Array.getElem?_eq_getElem hlt, hb])
          have hoi : l[i]? = some o' := by
            have : ops.toList[i]? = some o' := by simpa using ho
            rw [hl, List.getElem?_append_left hil2] at this
            exact this
          have hanc := anc_listed hc (ready_afters hi)
          have hu2 := List.all_eq_true.1 (List.all_eq_true.1 huse i (List.mem_range.2 hil2))
          have hop1 := hopsA_at l 0 A hop i o' hoi u w hI (onAll_of _ fun k hk => by
            have h1 := hu2 k hk
            refine hlR k ?_ (live_use hc hli h1)
            simp only [useOk, Bool.and_eq_true, Bool.or_eq_true, beq_iff_eq, List.contains_iff_mem] at h1
            rcases h1.1 with h2 | h2
            · exact .inl h2
            · have h3 := hanc k h2
              refine .inr ⟨?_, h3⟩
              rcases Nat.lt_or_ge k l.length with h | h
              · exact h
              · rw [hu k h] at h3
                cases h3)
          rw [Nat.zero_add] at hop1
          refine wpOp_of ho hop1 ?_ ?_
          · rintro a' w' ⟨v, rfl, hRi, hr⟩
            refine ih _ _ w' (by simp [hs]) (by rw [e1]; omega) ?_ (hc.set hlt (ready_afters hi)) ?_ ?_
            · intro j hj
              rw [set_get hlt, if_neg (by omega)]
              exact hu j hj
            · unfold relOf at hr
              cases hJi : J.contains i with
              | true => rw [hJi] at hr; exact hrelK _ _ hI hr
              | false => rw [hJi] at hr; exact hrel _ _ hI hr
            · intro k hk hlive
              by_cases hki : k = i
              · subst hki
                rw [upd_same]
                exact hRi
              · rw [upd_other _ _ hki]
                have hk' : k = 1000 ∨ k < l.length ∧ listed.getD k false = true := by
                  rcases hk with hk | ⟨h1, h2⟩
                  · exact .inl hk
                  · rw [set_get hlt, if_neg hki] at h2
                    exact .inr ⟨h1, h2⟩
                have hlive' : Live ops J D listed k := by
                  intro hd j hj
                  have := hlive hd j hj
                  rw [set_get hlt] at this
                  split at this
                  · cases this
                  · exact this
                have hold := hlR k hk' hlive'
                unfold relOf at hr
                cases hJi : J.contains i with
                | false => rw [hJi] at hr; exact hRs _ _ _ _ hr hold
                | true =>
                  rw [hJi] at hr
                  by_cases hd : k = 1000 ∨ k ∈ D
                  · exfalso
                    have hkill : i ∈ killers ops J k := by
                      refine List.mem_filter.2 ⟨List.contains_iff_mem.1 hJi, ?_⟩
                      have h1 : (i == k) = false := by simpa using fun h => hki h.symm
                      rw [h1]
                      cases hkb : k == 1000 with
                      | true => rfl
                      | false =>
                        simp only [cond_false, Bool.not_false, Bool.true_and, Bool.not_eq_true']
                        cases hca : (anc ops k).contains i with
                        | false => rfl
                        | true =>
                          exfalso
                          have hkn : k ≠ 1000 := by simpa using hkb
                          have hkl := (hk'.resolve_left hkn).2
                          have := anc_listed hc (fun x hx => hc k hkl x hx) i (List.contains_iff_mem.1 hca)
                          rw [getD_ft this] at hli
                          cases hli
                    have := hlive hd i hkill
                    rw [set_get hlt, if_pos rfl] at this
                    cases this
                  · exact hRk _ _ _ _ (fun h => hd (.inl h)) (fun h => hd (.inr h)) hr hold
          · intro e a' w' he h
            cases e <;> first | exact absurd rfl he | exact h
  rw [mkAct_own a ds hnd]
  refine wp_region_any hm (key _ _ _ _ (by simp) ?_ ?_ ?_ hI ?_)
  · have : ((Array.replicate ops.size false).toList.take l.length).length ≤ l.length := List.length_take_le _ _
    have h2 := List.length_filter_le (fun x => !x) ((Array.replicate ops.size false).toList.take l.length)
    omega
  · intro j _
    simp only [Array.getD_eq_getD_getElem?, Array.getElem?_replicate]
    split <;> rfl
  · intro j hj
    simp only [Array.getD_eq_getD_getElem?, Array.getElem?_replicate] at hj
    split at hj <;> simp at hj
  · intro k hk _
    rcases hk with rfl | ⟨_, hk⟩
    · exact hG
    · simp only [Array.getD_eq_getD_getElem?, Array.getElem?_replicate] at hk
      split at hk <;> simp at hk
end
theorem stableK {relK : World → World → Prop} {D : List Nat} {L : List (Value → World → Prop)} (h : ∀ q ∈ L.zipIdx, D.contains q.2 = false → Stable relK q.1) : ∀ i p, L[i]? = some p → D.contains i = false → Stable relK p := by
  intro i p hi hd
  exact h (p, i) (List.mem_zipIdx_iff_getElem?.2 hi) hd
section
variable {Q : Exit → Act → World → Prop} {a : Act} {ds : List (Nat × Nat)} {rel : World → World → Prop} {R : Nat → Value → World → Prop}
theorem stg_v {u : Nat → Value} {i : Nat} {w w' : World} {a' : Act} {x : Value} (hx : R i x w') (hr : rel w w') (ha : a' = mkAct a ds (upd u i x)) : StQ Q a ds rel R u i w .normal a' w' := ⟨x, ha, hx, hr⟩
end
end Go.Proofs.Ytejdiganmghopaa
