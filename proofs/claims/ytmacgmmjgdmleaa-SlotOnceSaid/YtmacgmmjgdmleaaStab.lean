/-
  A region that draws its order, walked once an operation: what each operation's slot holds is told by a fact that later operations cannot turn; then whatever the order, all these facts hold at its end.
-/
import Derived.Test.YtmacgmmjgdmleaaBase
import Derived.Orders
namespace Go.Proofs.Ytmacgmmjgdmleaa
open Go Go.RowKit
set_option linter.unusedSimpArgs false
set_option linter.unusedVariables false

def upd (u : Nat → Value) (i : Nat) (v : Value) : Nat → Value := fun k => if k = i then v else u k
theorem upd_same (u : Nat → Value) (i : Nat) (v : Value) : upd u i v i = v := by simp [upd]
theorem upd_other (u : Nat → Value) {i k : Nat} (v : Value) (h : k ≠ i) : upd u i v k = u k := by simp [upd, h]
/-- The frame, its slots (the pairs: slot, operation) as u tells. -/
def mkAct (a : Act) (ds : List (Nat × Nat)) (u : Nat → Value) : Act := { a with tmps := ds.foldl (fun t p => t.setIfInBounds p.1 (u p.2)) a.tmps }
/-- What an operation may lean on: the facts of the operations that must stand ahead of it. -/
def preds (R : Nat → Value → World → Prop) (u : Nat → Value) (w : World) : List Edge → Prop
  | [] => True
  | e :: l => (if Region.binds .any e then R e.on (u e.on) w else True) ∧ preds R u w l
/-- What an operation leaves. -/
def StQ (Q : Exit → Act → World → Prop) (a : Act) (ds : List (Nat × Nat)) (rel : World → World → Prop) (R : Nat → Value → World → Prop) (u : Nat → Value) (i : Nat) (w : World) : Exit → Act → World → Prop
  | .normal, a', w' => ∃ v, a' = mkAct a ds (upd u i v) ∧ R i v w' ∧ rel w w'
  | e, a', w' => Q e a' w'
/-- All operations, one by one. -/
def hops (P : Program) (ops : Array Oper) (Q : Exit → Act → World → Prop) (a : Act) (ds : List (Nat × Nat)) (rel : World → World → Prop) (I : World → Prop) (R : Nat → Value → World → Prop) : Nat → List Oper → Prop
  | _, [] => True
  | i, o :: l => (∀ u w, I w → preds R u w o.after.toList → wpList P ops (StQ Q a ds rel R u i w) [o] (mkAct a ds u) w) ∧ hops P ops Q a ds rel I R (i + 1) l
def allR (R : Nat → Value → World → Prop) (u : Nat → Value) (w : World) : Nat → Nat → Prop
  | _, 0 => True
  | i, n + 1 => R i (u i) w ∧ allR R u w (i + 1) n

section
variable {P : Program} {ops : Array Oper} {Q : Exit → Act → World → Prop} {a : Act} {ds : List (Nat × Nat)} {rel : World → World → Prop} {I : World → Prop} {R : Nat → Value → World → Prop}
theorem hops_at : ∀ (l : List Oper) (k : Nat), hops P ops Q a ds rel I R k l → ∀ j o, l[j]? = some o → ∀ u w, I w → preds R u w o.after.toList → wpList P ops (StQ Q a ds rel R u (k + j) w) [o] (mkAct a ds u) w := by
  intro l
  induction l with
  | nil => intro k _ j o h; simp at h
  | cons x l ih =>
    intro k h j o hj
    rcases j with _ | j
    · simp at hj
      subst hj
      exact h.1
    · have := ih (k + 1) h.2 j o (by simpa using hj)
      rw [show k + (j + 1) = k + 1 + j from by omega]
      exact this
theorem preds_of {u : Nat → Value} {w : World} : ∀ l : List Edge, (∀ e ∈ l, Region.binds .any e = true → R e.on (u e.on) w) → preds R u w l := by
  intro l
  induction l with
  | nil => intro _; trivial
  | cons e l ih =>
    intro h
    refine ⟨?_, ih fun e he => h e (List.mem_cons_of_mem _ he)⟩
    split
    · rename_i hb
      exact h e (List.mem_cons_self ..) hb
    · trivial
theorem allR_of {u : Nat → Value} {w : World} : ∀ (n i : Nat), (∀ j, i ≤ j → j < i + n → R j (u j) w) → allR R u w i n := by
  intro n
  induction n with
  | zero => intro i _; trivial
  | succ n ih => intro i h; exact ⟨h i (Nat.le_refl _) (by omega), ih (i + 1) fun j h1 h2 => h j (by omega) (by omega)⟩
/-- One operation by its number, as the orders' walk asks it. -/
theorem wpOp_of {i : Nat} {o : Oper} (ho : ops[i]? = some o) {Q' : Exit → Act → World → Prop} {K : Act → World → Prop} {a : Act} {w : World} (h : wpList P ops Q' [o] a w) (hn : ∀ a w, Q' .normal a w → K a w) (hq : ∀ e a w, e ≠ .normal → Q' e a w → Q e a w) : wpOp P ops Q i K a w := by
  unfold wpOp
  rw [ho]
  unfold wpList at h
  have hout : LetsOut Q' → LetsOut Q := fun ⟨a, w, h⟩ => ⟨a, w, hq _ _ _ (by simp) h⟩
  by_cases hw : Region.wanted o (yielded ops a.tmps) = true
  · simp only [hw, if_true] at h ⊢
    rcases h with h | ⟨h1, h2⟩
    · refine .inl ?_
      unfold Oper.wp at h ⊢
      generalize (execOp a.eval o).run P w = r at *
      cases r with
      | ok n w' =>
        cases n <;> simp only [Oper.upon] at h ⊢ <;>
          first
            | exact hn _ _ h
            | exact Calls.mono h (fun e w'' he => by cases e <;> first | exact hn _ _ he | exact hq _ _ _ (by simp) he | exact hout he)
            | exact Rows.mono h (fun _ _ he => hn _ _ he)
      | halt x w' => cases x <;> simp only [Oper.upon] at h ⊢ <;> exact hq _ _ _ (by simp) h
    · exact .inr ⟨h1, hout h2⟩
  · simp only [hw, if_false, Bool.false_eq_true] at h ⊢
    exact hn _ _ h
theorem ready_spec {md : Region.Mode} {listed : Array Bool} {i : Nat} (h : i ∈ Region.ready md ops listed) : listed.getD i true = false ∧ ∃ o, ops[i]? = some o ∧ ∀ e ∈ o.after, Region.binds md e = true → listed.getD e.on false = true := by
  simp only [Region.ready, List.mem_filter, List.mem_range, Bool.and_eq_true, Bool.not_eq_true'] at h
  obtain ⟨_, h1, h2⟩ := h
  refine ⟨h1, ?_⟩
  cases ho : ops[i]? with
  | none => simp [ho] at h2
  | some o =>
    refine ⟨o, rfl, ?_⟩
    simp only [ho, Option.map_some, Option.getD_some, Array.all_eq_true'] at h2
    intro e he hb
    have := h2 e he
    simpa [hb] using this
/-- Where nothing is ready, all is done. -/
theorem none_ready {md : Region.Mode} {listed : Array Bool} (hs : listed.size = ops.size) (hord : ∀ (i : Nat) (o : Oper), ops[i]? = some o → ∀ e ∈ o.after, Region.binds md e = true → e.on < i) (h : Region.ready md ops listed = []) : ∀ i, i < ops.size → listed.getD i true = true := by
  intro i
  induction i using Nat.strongRecOn with
  | _ i ih =>
    intro hi
    cases hl : listed.getD i true with
    | true => rfl
    | false =>
      exfalso
      have hmem : i ∈ Region.ready md ops listed := by
        simp only [Region.ready, List.mem_filter, List.mem_range, Bool.and_eq_true, Bool.not_eq_true']
        refine ⟨hi, hl, ?_⟩
        have ho : ops[i]? = some ops[i] := Array.getElem?_eq_getElem hi
        simp only [ho, Option.map_some, Option.getD_some, Array.all_eq_true']
        intro e he
        by_cases hb : Region.binds md e = true
        case neg => simp [hb]
        have h1 := hord i _ ho e he hb
        have h2 := ih e.on h1 (by omega)
        have h3 : listed.getD e.on false = true := by
          have hlt : e.on < listed.size := by omega
          simp only [Array.getD_eq_getD_getElem?, Array.getElem?_eq_getElem hlt, Option.getD_some] at h2 ⊢
          exact h2
        simp [h3]
      rw [h] at hmem
      cases hmem
/-- The slots as they are. -/
def ownU (a : Act) (ds : List (Nat × Nat)) : Nat → Value := fun i => ((ds.find? fun p => p.2 == i).map fun p => a.tmps.getD p.1 undef).getD undef
theorem set_own (t : Array Value) (s : Nat) : t.setIfInBounds s (t.getD s undef) = t := by
  apply Array.ext_getElem?
  intro k
  rw [Array.getElem?_setIfInBounds]
  split
  · rename_i h
    subst h
    split
    · rename_i h
      simp [h]
    · rename_i h
      rw [Array.getElem?_eq_none (by omega)]
  · rfl
theorem mkAct_own (a : Act) (ds : List (Nat × Nat)) (hnd : (ds.map Prod.snd).Nodup) : a = mkAct a ds (ownU a ds) := by
  have key : ∀ (l : List (Nat × Nat)) (t : Array Value) (u : Nat → Value), (∀ p ∈ l, u p.2 = t.getD p.1 undef) → l.foldl (fun t p => t.setIfInBounds p.1 (u p.2)) t = t := by
    intro l
    induction l with
    | nil => intro t u _; rfl
    | cons p l ih =>
      intro t u h
      simp only [List.foldl_cons]
      rw [h p (List.mem_cons_self ..), set_own]
      exact ih t u fun q hq => h q (List.mem_cons_of_mem _ hq)
  have hu : ∀ p ∈ ds, ownU a ds p.2 = a.tmps.getD p.1 undef := by
    intro p hp
    have : ds.find? (fun q => q.2 == p.2) = some p := by
      clear key
      induction ds with
      | nil => cases hp
      | cons q ds ih =>
        simp only [List.map_cons, List.nodup_cons] at hnd
        rw [List.find?_cons]
        by_cases hq : q.2 = p.2
        · rcases List.mem_cons.1 hp with rfl | hp
          · simp
          · exact absurd (hq ▸ List.mem_map.2 ⟨p, hp, rfl⟩) hnd.1
        · rcases List.mem_cons.1 hp with rfl | hp
          · exact absurd rfl hq
          · simp only [show (q.2 == p.2) = false from by simpa using hq]
            exact ih hnd.2 hp
    simp [ownU, this]
  unfold mkAct
  rw [key ds a.tmps _ hu]
/-- A region that draws: each operation walked once. -/
theorem wp_region_stable {id : Nat} {w : World} (hm : P.follows .mixedOrders = true) (ds : List (Nat × Nat)) (rel : World → World → Prop) (I : World → Prop) (R : Nat → Value → World → Prop)
    (hI : I w.drew) (hrel : ∀ w w', I w → rel w w' → I w') (hR : ∀ i v w w', rel w w' → R i v w → R i v w') (hnd : (ds.map Prod.snd).Nodup)
    (hord : ∀ (i : Nat) (o : Oper), ops[i]? = some o → ∀ e ∈ o.after, Region.binds .any e = true → e.on < i)
    (hop : hops P ops Q a ds rel I R 0 ops.toList)
    (hend : ∀ u w, I w → allR R u w 0 ops.size → Q .normal (mkAct a ds u) w) : (Code.region id ops true).wp P Q a w := by
  have key : ∀ (fuel : Nat) (listed : Array Bool) (u : Nat → Value) (w : World), listed.size = ops.size → (listed.toList.filter (fun x => !x)).length ≤ fuel → I w → (∀ i, i < ops.size → listed.getD i true = true → R i (u i) w) → wpAny P .any ops Q fuel listed (mkAct a ds u) w := by
    intro fuel
    induction fuel with
    | zero =>
      intro listed u w hs hf hI hl
      have hall : ∀ i, i < ops.size → listed.getD i true = true := by
        intro i hi
        have h0 : listed.toList.filter (fun x => !x) = [] := List.eq_nil_of_length_eq_zero (by omega)
        cases hb : listed.getD i true with
        | true => rfl
        | false =>
          exfalso
          have hlt : i < listed.size := by omega
          simp only [Array.getD_eq_getD_getElem?, Array.getElem?_eq_getElem hlt, Option.getD_some] at hb
          have : false ∈ listed.toList.filter (fun x => !x) := List.mem_filter.2 ⟨by rw [← hb]; exact Array.mem_toList_iff.2 (Array.getElem_mem hlt), rfl⟩
          rw [h0] at this
          cases this
      refine ⟨?_, hend u w hI (allR_of _ 0 fun j _ h2 => hl j (by omega) (hall j (by omega)))⟩
      simp only [Region.ready, List.filter_eq_nil_iff, List.mem_range]
      intro i hi
      simp [hall i hi]
    | succ fuel ih =>
      intro listed u w hs hf hI hl
      refine ⟨fun h => hend u w hI (allR_of _ 0 fun j _ h2 => hl j (by omega) (none_ready hs hord h j (by omega))), ?_⟩
      intro i hi
      obtain ⟨hli, o, ho, hpre⟩ := ready_spec hi
      have hil : i < ops.size := (Array.getElem?_eq_some_iff.1 ho).1
      have hop1 := hops_at ops.toList 0 hop i o (by simpa using ho) u w hI (preds_of _ fun e he hb => by
        have he' : e ∈ o.after := Array.mem_toList_iff.1 he
        have h1 := hpre e he' hb
        have h2 := hord i o ho e he' hb
        refine hl e.on (by omega) ?_
        have hlt : e.on < listed.size := by omega
        simp only [Array.getD_eq_getD_getElem?, Array.getElem?_eq_getElem hlt, Option.getD_some] at h1 ⊢
        exact h1)
      rw [Nat.zero_add] at hop1
      refine wpOp_of ho hop1 ?_ ?_
      · rintro a' w' ⟨v, rfl, hRi, hr⟩
        refine ih _ _ w' (by simp [hs]) ?_ (hrel _ _ hI hr) ?_
        · have hlt : i < listed.size := by omega
          have hb : listed[i] = false := by
            simp only [Array.getD_eq_getD_getElem?, Array.getElem?_eq_getElem hlt, Option.getD_some] at hli
            exact hli
          have e1 : (listed.setIfInBounds i true).toList = listed.toList.set i true := by simp
          rw [e1]
          have hcount : ∀ (l : List Bool) (i : Nat), l[i]? = some false → ((l.set i true).filter (fun x => !x)).length + 1 = (l.filter (fun x => !x)).length := by
            intro l
            induction l with
            | nil => intro i h; simp at h
            | cons x l ih =>
              intro i h
              rcases i with _ | i
              · simp at h
                subst h
                simp
              · simp only [List.getElem?_cons_succ] at h
                have := ih i h
                simp only [List.set_cons_succ, List.filter_cons]
                cases x
                · simp only [Bool.not_false, if_true, List.length_cons]
                  omega
                · simp only [Bool.not_true, Bool.false_eq_true, if_false]
                  exact this
          have := hcount listed.toList i (by rw [Array.getElem?_toList, Array.getElem?_eq_getElem hlt, hb])
          omega
        · intro k hk hlk
          by_cases hki : k = i
          · subst hki
            rw [upd_same]
            exact hRi
          · rw [upd_other _ _ hki]
            refine hR _ _ _ _ hr (hl k hk ?_)
            have hlt : k < listed.size := by omega
            simp only [Array.getD_eq_getD_getElem?, Array.getElem?_setIfInBounds, Array.getElem?_eq_getElem hlt] at hlk ⊢
            rw [if_neg (fun h => hki h.symm)] at hlk
            exact hlk
      · intro e a' w' he h
        cases e <;> first | exact absurd rfl he | exact h
  rw [mkAct_own a ds hnd]
  refine wp_region_any hm (key _ _ _ _ (by simp) ?_ hI ?_)
  · simp
  · intro i hi hl
    simp [Array.getD_eq_getD_getElem?, hi] at hl
/-- A region that draws, whose last operation stands behind all others: each of the others walked once, the last one behind them. -/
theorem wp_region_tail {id : Nat} {w : World} (hm : P.follows .mixedOrders = true) (ds : List (Nat × Nat)) (rel : World → World → Prop) (I : World → Prop) (R : Nat → Value → World → Prop) (l : List Oper) (o : Oper) (hl : ops.toList = l ++ [o])
    (hI : I w.drew) (hrel : ∀ w w', I w → rel w w' → I w') (hR : ∀ i v w w', rel w w' → R i v w → R i v w') (hnd : (ds.map Prod.snd).Nodup)
    (hord : ∀ (i : Nat) (o : Oper), ops[i]? = some o → ∀ e ∈ o.after, Region.binds .any e = true → e.on < i) (hlast : ∀ i, i < l.length → ∃ e ∈ o.after, Region.binds .any e = true ∧ e.on = i)
    (hop : hops P ops Q a ds rel I R 0 l)
    (hend : ∀ u w, I w → allR R u w 0 l.length → wpList P ops Q [o] (mkAct a ds u) w) : (Code.region id ops true).wp P Q a w := by
  have hsz : ops.size = l.length + 1 := by
    have := congrArg List.length hl
    simpa using this
  have hlo : ops[l.length]? = some o := by
    have : ops.toList[l.length]? = some o := by rw [hl]; simp
    simpa using this
  have key : ∀ (fuel : Nat) (listed : Array Bool) (u : Nat → Value) (w : World), listed.size = ops.size → (listed.toList.filter (fun x => !x)).length ≤ fuel → listed.getD l.length true = false → I w → (∀ i, i < l.length → listed.getD i true = true → R i (u i) w) → wpAny P .any ops Q fuel listed (mkAct a ds u) w := by
    intro fuel
    induction fuel with
    | zero =>
      intro listed u w hs hf hu hI hl
      exfalso
      have h0 : listed.toList.filter (fun x => !x) = [] := List.eq_nil_of_length_eq_zero (by omega)
      have hlt : l.length < listed.size := by omega
      simp only [Array.getD_eq_getD_getElem?, Array.getElem?_eq_getElem hlt, Option.getD_some] at hu
      have : false ∈ listed.toList.filter (fun x => !x) := List.mem_filter.2 ⟨by rw [← hu]; exact Array.mem_toList_iff.2 (Array.getElem_mem hlt), rfl⟩
      rw [h0] at this
      cases this
    | succ fuel ih =>
      intro listed u w hs hf hu hI hlR
      refine ⟨fun h => ?_, ?_⟩
      · have := none_ready hs hord h l.length (by omega)
        rw [this] at hu
        cases hu
      · intro i hi
        obtain ⟨hli, o', ho, hpre⟩ := ready_spec hi
        have hil : i < ops.size := (Array.getElem?_eq_some_iff.1 ho).1
        have hcount : ∀ (l : List Bool) (i : Nat), l[i]? = some false → ((l.set i true).filter (fun x => !x)).length + 1 = (l.filter (fun x => !x)).length := by
          intro l
          induction l with
          | nil => intro i h; simp at h
          | cons x l ih =>
            intro i h
            rcases i with _ | i
            · simp at h
              subst h
              simp
            · simp only [List.getElem?_cons_succ] at h
              have := ih i h
              simp only [List.set_cons_succ, List.filter_cons]
              cases x
              · simp only [Bool.not_false, if_true, List.length_cons]
                omega
              · simp only [Bool.not_true, Bool.false_eq_true, if_false]
                exact this
        have hlt : i < listed.size := by omega
        have hb : listed[i] = false := by
          simp only [Array.getD_eq_getD_getElem?, Array.getElem?_eq_getElem hlt, Option.getD_some] at hli
          exact hli
        have e1 : (listed.setIfInBounds i true).toList = listed.toList.set i true := by simp
        have hc := hcount listed.toList i (by rw [Array.getElem?_toList, Array.getElem?_eq_getElem hlt, hb])
        have hget : ∀ k, k ≠ i → k < ops.size → (listed.setIfInBounds i true).getD k true = listed.getD k true := by
          intro k hk hk2
          have hkl : k < listed.size := by omega
          simp only [Array.getD_eq_getD_getElem?, Array.getElem?_setIfInBounds, Array.getElem?_eq_getElem hkl]
          rw [if_neg (fun h => hk h.symm)]
        by_cases hlast' : i = l.length
        · subst hlast'
          rw [hlo] at ho
          injection ho with ho
          subst ho
          have hall : ∀ j, j < l.length → listed.getD j true = true := by
            intro j hj
            obtain ⟨e, he, heb, hej⟩ := hlast j hj
            have h1 := hpre e he heb
            rw [hej] at h1
            have hjl : j < listed.size := by omega
            simp only [Array.getD_eq_getD_getElem?, Array.getElem?_eq_getElem hjl, Option.getD_some] at h1 ⊢
            exact h1
          refine wpOp_of hlo (hend u w hI (allR_of _ 0 fun j _ h2 => hlR j (by omega) (hall j (by omega)))) ?_ (fun e a w _ h => h)
          intro a' w' hq
          have hnone : Region.ready .any ops (listed.setIfInBounds l.length true) = [] := by
            simp only [Region.ready, List.filter_eq_nil_iff, List.mem_range]
            intro k hk
            by_cases hkl : k = l.length
            · subst hkl
              simp [Array.getD_eq_getD_getElem?, hs, hk]
            · rw [hget k hkl hk, hall k (by omega)]
              simp
          cases fuel with
          | zero => exact ⟨hnone, hq⟩
          | succ fuel => exact ⟨fun _ => hq, fun j hj => by rw [hnone] at hj; cases hj⟩
        · have hil2 : i < l.length := by omega
          have hoi : l[i]? = some o' := by
            have : ops.toList[i]? = some o' := by simpa using ho
            rw [hl, List.getElem?_append_left hil2] at this
            exact this
          have hop1 := hops_at l 0 hop i o' hoi u w hI (preds_of _ fun e he hb => by
            have he' : e ∈ o'.after := Array.mem_toList_iff.1 he
            have h1 := hpre e he' hb
            have h2 := hord i o' ho e he' hb
            refine hlR e.on (by omega) ?_
            have hlt : e.on < listed.size := by omega
            simp only [Array.getD_eq_getD_getElem?, Array.getElem?_eq_getElem hlt, Option.getD_some] at h1 ⊢
            exact h1)
          rw [Nat.zero_add] at hop1
          refine wpOp_of ho hop1 ?_ ?_
          · rintro a' w' ⟨v, rfl, hRi, hr⟩
            refine ih _ _ w' (by simp [hs]) (by rw [e1]; omega) ?_ (hrel _ _ hI hr) ?_
            · rw [hget l.length (fun h => hlast' h.symm) (by omega)]
              exact hu
            · intro k hk hlk
              by_cases hki : k = i
              · subst hki
                rw [upd_same]
                exact hRi
              · rw [upd_other _ _ hki]
                rw [hget k hki (by omega)] at hlk
                exact hR _ _ _ _ hr (hlR k hk hlk)
          · intro e a' w' he h
            cases e <;> first | exact absurd rfl he | exact h
  rw [mkAct_own a ds hnd]
  refine wp_region_any hm (key _ _ _ _ (by simp) ?_ ?_ hI ?_)
  · simp
  · simp [Array.getD_eq_getD_getElem?, hsz]
  · intro i hi hl
    have : i < ops.size := by omega
    simp [Array.getD_eq_getD_getElem?, this] at hl
/-- The edges lead back. -/
def ordOk (ops : Array Oper) : Bool := (List.range ops.size).all fun i => ((ops[i]?).map fun o => o.after.toList.all fun e => !Region.binds .any e || decide (e.on < i)).getD true
theorem ord_of (h : ordOk ops = true) : ∀ (i : Nat) (o : Oper), ops[i]? = some o → ∀ e ∈ o.after, Region.binds .any e = true → e.on < i := by
  intro i o ho e he hb
  have hi : i < ops.size := (Array.getElem?_eq_some_iff.1 ho).1
  have h1 := List.all_eq_true.1 h i (List.mem_range.2 hi)
  rw [ho] at h1
  simp only [Option.map_some, Option.getD_some] at h1
  have h2 := List.all_eq_true.1 h1 e (Array.mem_toList_iff.2 he)
  simpa [hb] using h2
def Stable (rel : World → World → Prop) (p : Value → World → Prop) : Prop := ∀ v w w', rel w w' → p v w → p v w'
def factAt (L : List (Value → World → Prop)) (i : Nat) : Value → World → Prop := L.getD i fun _ _ => True
theorem facts_stable {L : List (Value → World → Prop)} (h : ∀ p ∈ L, Stable rel p) : ∀ i v w w', rel w w' → factAt L i v w → factAt L i v w' := by
  intro i v w w' hr hf
  unfold factAt at *
  rcases Nat.lt_or_ge i L.length with hi | hi
  · simp only [List.getD_eq_getElem?_getD, List.getElem?_eq_getElem hi, Option.getD_some] at *
    exact h _ (List.getElem_mem hi) v w w' hr hf
  · simp [List.getD_eq_getElem?_getD, List.getElem?_eq_none hi]
/-- The facts as a list. -/
theorem wp_region_facts {id : Nat} {w : World} (hm : P.follows .mixedOrders = true) (ds : List (Nat × Nat)) (rel : World → World → Prop) (I : World → Prop) (L : List (Value → World → Prop))
    (hI : I w.drew) (hrel : ∀ w w', I w → rel w w' → I w') (hL : ∀ p ∈ L, Stable rel p) (hnd : (ds.map Prod.snd).Nodup) (hord : ordOk ops = true)
    (hop : hops P ops Q a ds rel I (factAt L) 0 ops.toList)
    (hend : ∀ u w, I w → allR (factAt L) u w 0 ops.size → Q .normal (mkAct a ds u) w) : (Code.region id ops true).wp P Q a w :=
  wp_region_stable hm ds rel I (factAt L) hI hrel (facts_stable hL) hnd (ord_of hord) hop hend
def lastOk (n : Nat) (o : Oper) : Bool := (List.range n).all fun i => o.after.toList.any fun e => Region.binds .any e && e.on == i
theorem last_of {n : Nat} {o : Oper} (h : lastOk n o = true) : ∀ i, i < n → ∃ e ∈ o.after, Region.binds .any e = true ∧ e.on = i := by
  intro i hi
  have h1 := List.all_eq_true.1 h i (List.mem_range.2 hi)
  obtain ⟨e, he, h2⟩ := List.any_eq_true.1 h1
  simp only [Bool.and_eq_true, beq_iff_eq] at h2
  exact ⟨e, Array.mem_toList_iff.1 he, h2⟩
/-- The facts as a list, the last operation behind the others. -/
theorem wp_region_last {id : Nat} {w : World} (hm : P.follows .mixedOrders = true) (ds : List (Nat × Nat)) (rel : World → World → Prop) (I : World → Prop) (L : List (Value → World → Prop))
    (hI : I w.drew) (hrel : ∀ w w', I w → rel w w' → I w') (hL : ∀ p ∈ L, Stable rel p) (hnd : (ds.map Prod.snd).Nodup) {l : List Oper} {o : Oper} (hl : ops.toList = l ++ [o]) (hord : ordOk ops = true) (hlast : lastOk l.length o = true)
    (hop : hops P ops Q a ds rel I (factAt L) 0 l)
    (hend : ∀ u w, I w → allR (factAt L) u w 0 l.length → wpList P ops Q [o] (mkAct a ds u) w) : (Code.region id ops true).wp P Q a w :=
  wp_region_tail hm ds rel I (factAt L) l o hl hI hrel (facts_stable hL) hnd (ord_of hord) (last_of hlast) hop hend
/-- It is this value. -/
def isV (x : Value) : Value → World → Prop := fun v _ => v = x
theorem isV_stable (x : Value) : Stable rel (isV x) := fun _ _ _ _ h => h
theorem stq_v {L : List (Value → World → Prop)} {u : Nat → Value} {i : Nat} {w w' : World} {a' : Act} {x : Value} (hx : factAt L i = isV x) (hr : rel w w') (ha : a' = mkAct a ds (upd u i x)) : StQ Q a ds rel (factAt L) u i w .normal a' w' :=
  ⟨x, ha, by rw [hx]; rfl, hr⟩
theorem stq_x {L : List (Value → World → Prop)} {u : Nat → Value} {i : Nat} {w w' : World} {a' : Act} (x : Value) {p : Value → World → Prop} (hx : factAt L i = p) (hp : p x w') (hr : rel w w') (ha : a' = mkAct a ds (upd u i x)) : StQ Q a ds rel (factAt L) u i w .normal a' w' :=
  ⟨x, ha, by rw [hx]; exact hp, hr⟩
/-- It is a slice that reads as these bytes. -/
def isB (l : List UInt8) : Value → World → Prop := fun v w => ∃ ao c, v = .slice ao l.length c ∧ Sl w 1 ao l.length c (bv l)
theorem isB_stable (l : List UInt8) : Stable Same (isB l) := fun _ _ _ k ⟨ao, c, h, hs⟩ => ⟨ao, c, h, hs.same k⟩
def isAny : Value → World → Prop := fun _ _ => True
theorem isAny_stable : Stable rel isAny := fun _ _ _ _ h => h
end
/-- A text. -/
def str (l : List UInt8) : Value := .string ⟨l.toArray⟩
end Go.Proofs.Ytmacgmmjgdmleaa
