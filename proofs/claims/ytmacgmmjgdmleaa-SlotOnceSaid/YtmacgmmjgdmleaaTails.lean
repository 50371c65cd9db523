/-
  A region that draws its order, whose last operations stand behind all others, one behind the other: the others are walked once each, the last ones behind them.
-/
import Derived.Test.YtmacgmmjgdmleaaStab
import Derived.Lib.SlBytesConst
namespace Go.Proofs.Ytmacgmmjgdmleaa
open Go Go.RowKit
set_option linter.unusedSimpArgs false
set_option linter.unusedVariables false

/-- What an operation stands behind. -/
def afters (ops : Array Oper) (j : Nat) : List Nat := ((ops[j]?).map fun o => (o.after.toList.filter fun e => Region.binds .any e).map (·.on)).getD []
/-- Do all k operations stand ahead of those of S? -/
def mark (ops : Array Oper) : Nat → List Nat → Bool
  | 0, _ => true
  | k + 1, S => S.contains k && mark ops k (afters ops k ++ S)
def tailsOk (m : Nat) (ops : Array Oper) : Bool := (List.range ops.size).all fun j => decide (j < m) || mark ops j (afters ops j)
section
variable {P : Program} {ops : Array Oper} {Q : Exit → Act → World → Prop} {a : Act} {ds : List (Nat × Nat)} {rel : World → World → Prop} {I : World → Prop} {R : Nat → Value → World → Prop} {listed : Array Bool}
/-- What is done leans on what is done. -/
def Closed (ops : Array Oper) (listed : Array Bool) : Prop := ∀ j, listed.getD j false = true → ∀ i ∈ afters ops j, listed.getD i false = true
theorem mark_all (hc : Closed ops listed) : ∀ (k : Nat) (S : List Nat), (∀ i ∈ S, listed.getD i false = true) → mark ops k S = true → ∀ i, i < k → listed.getD i false = true := by
  intro k
  induction k with
  | zero => intro S _ _ i hi; omega
  | succ k ih =>
    intro S hS hm i hi
    simp only [mark, Bool.and_eq_true, List.contains_iff_mem] at hm
    have hk := hS k hm.1
    by_cases h : i = k
    · subst h; exact hk
    · refine ih (afters ops k ++ S) ?_ hm.2 i (by omega)
      intro x hx
      rcases List.mem_append.1 hx with hx | hx
      · exact hc k hk x hx
      · exact hS x hx
theorem getD_ft {j : Nat} (h : listed.getD j false = true) : listed.getD j true = true := by
  rcases Nat.lt_or_ge j listed.size with hj | hj
  · simpa [Array.getD_eq_getD_getElem?, Array.getElem?_eq_getElem hj] using h
  · simp [Array.getD_eq_getD_getElem?, Array.getElem?_eq_none hj]
theorem getD_tf {j : Nat} (hj : j < listed.size) (h : listed.getD j true = true) : listed.getD j false = true := by
  simpa [Array.getD_eq_getD_getElem?, Array.getElem?_eq_getElem hj] using h
theorem ready_afters {i : Nat} (h : i ∈ Region.ready .any ops listed) : ∀ x ∈ afters ops i, listed.getD x false = true := by
  obtain ⟨_, o, ho, hp⟩ := ready_spec h
  intro x hx
  simp only [afters, ho, Option.map_some, Option.getD_some, List.mem_map, List.mem_filter, Array.mem_toList_iff] at hx
  obtain ⟨e, ⟨he, hb⟩, rfl⟩ := hx
  exact hp e he hb
theorem set_get {i : Nat} (hi : i < listed.size) (j : Nat) : (listed.setIfInBounds i true).getD j false = (if j = i then true else listed.getD j false) := by
  simp only [Array.getD_eq_getD_getElem?, Array.getElem?_setIfInBounds]
  by_cases h : i = j
  · subst h
    simp [hi]
  · rw [if_neg h, if_neg (fun e => h e.symm)]
theorem Closed.set (hc : Closed ops listed) {i : Nat} (hi : i < listed.size) (hr : ∀ x ∈ afters ops i, listed.getD x false = true) : Closed ops (listed.setIfInBounds i true) := by
  intro j hj x hx
  rw [set_get hi] at hj ⊢
  split
  · rfl
  · by_cases h : j = i
    · subst h
      exact hr x hx
    · rw [if_neg h] at hj
      exact hc j hj x hx
/-- The last operations, in their order. -/
theorem tail_any (hord : ∀ (i : Nat) (o : Oper), ops[i]? = some o → ∀ e ∈ o.after, Region.binds .any e = true → e.on < i) : ∀ (ts : List Oper) (fuel m : Nat) (listed : Array Bool) (a : Act) (w : World),
    listed.size = ops.size → m + ts.length = ops.size → (∀ j, j < ts.length → ops[m + j]? = ts[j]?) → (∀ j, j < m → listed.getD j false = true) → (∀ j, m ≤ j → listed.getD j false = false) → Closed ops listed →
    (∀ j, m ≤ j → j < ops.size → mark ops j (afters ops j) = true) → wpList P ops Q ts a w → ts.length ≤ fuel → wpAny P .any ops Q fuel listed a w := by
  intro ts
  induction ts with
  | nil =>
    intro fuel m listed a w hs hm _ hl _ _ _ hq _
    simp only [List.length_nil, Nat.add_zero] at hm
    have hnone : Region.ready .any ops listed = [] := by
      simp only [Region.ready, List.filter_eq_nil_iff, List.mem_range]
      intro k hk
      have := getD_ft (hl k (by omega))
      rw [this]
      simp
    cases fuel with
    | zero => exact ⟨hnone, hq⟩
    | succ fuel => exact ⟨fun _ => hq, fun j hj => by rw [hnone] at hj; cases hj⟩
  | cons o ts ih =>
    intro fuel m listed a w hs hm ho hl hu hc hk hq hf
    simp only [List.length_cons] at hm hf
    obtain ⟨fuel, rfl⟩ : ∃ n, fuel = n + 1 := ⟨fuel - 1, by omega⟩
    refine ⟨fun h => ?_, fun i hi => ?_⟩
    · have h1 := getD_tf (by omega) (none_ready hs hord h m (by omega))
      rw [hu m (Nat.le_refl _)] at h1
      cases h1
    · obtain ⟨hli, o', ho', _⟩ := ready_spec hi
      have hil : i < ops.size := (Array.getElem?_eq_some_iff.1 ho').1
      have him : i = m := by
        rcases Nat.lt_trichotomy i m with h | h | h
        · have := getD_ft (hl i h)
          rw [this] at hli
          cases hli
        · exact h
        · have h1 := mark_all hc i _ (ready_afters hi) (hk i (by omega) hil) m h
          rw [hu m (Nat.le_refl _)] at h1
          cases h1
      subst him
      have h0 : ops[i]? = some o := by simpa using ho 0 (by simp)
      have hgo : ∀ a w, wpList P ops Q ts a w → wpAny P .any ops Q fuel (listed.setIfInBounds i true) a w := by
        intro a w h
        refine ih fuel (i + 1) _ a w (by simp [hs]) (by omega) (fun j hj => by have := ho (j + 1) (by simp; omega); simpa [Nat.add_assoc, Nat.add_comm 1 j] using this) ?_ ?_ (hc.set (by omega) (ready_afters hi)) (fun j hj => hk j (by omega)) h (by omega)
        · intro j hj
          rw [set_get (by omega)]
          split
          · rfl
          · exact hl j (by omega)
        · intro j hj
          rw [set_get (by omega), if_neg (by omega)]
          exact hu j (by omega)
      unfold wpOp
      rw [h0]
      simp only []
      simp only [wpList] at hq
      split at hq
      · rename_i hw
        rw [if_pos hw]
        rcases hq with hq | hq
        · exact .inl (Oper.wp_mono hgo hq)
        · exact .inr hq
      · rename_i hw
        rw [if_neg hw]
        exact hgo _ _ hq
theorem wp_region_tails {id : Nat} {w : World} (hm : P.follows .mixedOrders = true) (ds : List (Nat × Nat)) (rel : World → World → Prop) (I : World → Prop) (L : List (Value → World → Prop))
    (hI : I w.drew) (hrel : ∀ w w', I w → rel w w' → I w') (hL : ∀ p ∈ L, Stable rel p) (hnd : (ds.map Prod.snd).Nodup) {l ts : List Oper} (hl : ops.toList = l ++ ts) (hord' : ordOk ops = true) (htail : tailsOk l.length ops = true)
    (hop : hops P ops Q a ds rel I (factAt L) 0 l)
    (hend : ∀ u w, I w → allR (factAt L) u w 0 l.length → wpList P ops Q ts (mkAct a ds u) w) : (Code.region id ops true).wp P Q a w := by
  have hord := ord_of hord'
  have hR := facts_stable hL
  have hsz : ops.size = l.length + ts.length := by
    have := congrArg List.length hl
    simpa using this
  have hmk : ∀ j, l.length ≤ j → j < ops.size → mark ops j (afters ops j) = true := by
    intro j h1 h2
    have h3 := List.all_eq_true.1 htail j (List.mem_range.2 h2)
    simp only [Bool.or_eq_true, decide_eq_true_eq] at h3
    exact h3.resolve_left (by omega)
  have hts : ∀ j, j < ts.length → ops[l.length + j]? = ts[j]? := by
    intro j hj
    have : ops.toList[l.length + j]? = ts[j]? := by rw [hl, List.getElem?_append_right (by omega), Nat.add_sub_cancel_left]
    simpa using this
  have key : ∀ (fuel : Nat) (listed : Array Bool) (u : Nat → Value) (w : World), listed.size = ops.size → ((listed.toList.take l.length).filter (fun x => !x)).length + ts.length ≤ fuel → (∀ j, l.length ≤ j → listed.getD j false = false) → Closed ops listed → I w → (∀ i, i < l.length → listed.getD i false = true → factAt L i (u i) w) → wpAny P .any ops Q fuel listed (mkAct a ds u) w := by
    intro fuel
    induction fuel with
    | zero =>
      intro listed u w hs hf hu hc hI hlR
      have hall : ∀ j, j < l.length → listed.getD j false = true := by
        intro j hj
        have h0 : (listed.toList.take l.length).filter (fun x => !x) = [] := List.eq_nil_of_length_eq_zero (by omega)
        have hjl : j < listed.size := by omega
        cases hb : listed[j] with
        | true => simp [Array.getD_eq_getD_getElem?, Array.getElem?_eq_getElem hjl, hb]
        | false =>
          have : false ∈ (listed.toList.take l.length).filter (fun x => !x) := List.mem_filter.2 ⟨by
            rw [← hb]
            exact List.mem_take_iff_getElem.2 ⟨j, by simp; omega, by simp⟩, rfl⟩
          rw [h0] at this
          cases this
      exact tail_any hord ts 0 l.length listed _ w hs (by omega) hts hall hu hc hmk (hend u w hI (allR_of _ 0 fun j _ h2 => hlR j (by omega) (hall j (by omega)))) (by omega)
    | succ fuel ih =>
      intro listed u w hs hf hu hc hI hlR
      by_cases hall : ∀ j, j < l.length → listed.getD j false = true
      · exact tail_any hord ts (fuel + 1) l.length listed _ w hs (by omega) hts hall hu hc hmk (hend u w hI (allR_of _ 0 fun j _ h2 => hlR j (by omega) (hall j (by omega)))) (by omega)
      · refine ⟨fun h => ?_, ?_⟩
        · exfalso
          exact hall fun j hj => getD_tf (by omega) (none_ready hs hord h j (by omega))
        · intro i hi
          obtain ⟨hli, o', ho, hpre⟩ := ready_spec hi
          have hil : i < ops.size := (Array.getElem?_eq_some_iff.1 ho).1
          have hil2 : i < l.length := by
            rcases Nat.lt_or_ge i l.length with h | h
            · exact h
            · exact absurd (fun j hj => mark_all hc i _ (ready_afters hi) (hmk i h hil) j (by omega)) hall
          have hcount : ∀ (l : List Bool) (i : Nat), l[i]? = some false → ((l.set i true).filter (fun x => !x)).length + 1 = (l.filter (fun x => !x)).length := by
            intro l
            induction l with
            | nil => intro i h; simp at h
            | cons x l ih =>
              intro i h
              rcases i with _ | i
              · simp at h
                subst h
                simp
              · simp only [List.getElem?_cons_succ] at h
                have := ih i h
                simp only [List.set_cons_succ, List.filter_cons]
                cases x
                · simp only [Bool.not_false, if_true, List.length_cons]
                  omega
                · simp only [Bool.not_true, Bool.false_eq_true, if_false]
                  exact this
          have hlt : i < listed.size := by omega
          have hb : listed[i] = false := by
            simp only [Array.getD_eq_getD_getElem?, Array.getElem?_eq_getElem hlt, Option.getD_some] at hli
            exact hli
          have e1 : (listed.setIfInBounds i true).toList.take l.length = (listed.toList.take l.length).set i true := by
            rw [Array.toList_setIfInBounds, List.take_set]
          have hc2 := hcount (listed.toList.take l.length) i (by rw [List.getElem?_take, if_pos hil2, Array.getElem?_toList, Array.getElem?_eq_getElem hlt, hb])
          have hoi : l[i]? = some o' := by
            have : ops.toList[i]? = some o' := by simpa using ho
            rw [hl, List.getElem?_append_left hil2] at this
            exact this
          have hop1 := hops_at l 0 hop i o' hoi u w hI (preds_of _ fun e he hb => by
            have he' : e ∈ o'.after := Array.mem_toList_iff.1 he
            have h1 := hpre e he' hb
            have h2 := hord i o' ho e he' hb
            exact hlR e.on (by omega) h1)
          rw [Nat.zero_add] at hop1
          refine wpOp_of ho hop1 ?_ ?_
          · rintro a' w' ⟨v, rfl, hRi, hr⟩
            refine ih _ _ w' (by simp [hs]) (by rw [e1]; omega) ?_ (hc.set hlt (ready_afters hi)) (hrel _ _ hI hr) ?_
            · intro j hj
              rw [set_get hlt, if_neg (by omega)]
              exact hu j hj
            · intro k hk hlk
              by_cases hki : k = i
              · subst hki
                rw [upd_same]
                exact hRi
              · rw [upd_other _ _ hki]
                rw [set_get hlt, if_neg hki] at hlk
                exact hR _ _ _ _ hr (hlR k hk hlk)
          · intro e a' w' he h
            cases e <;> first | exact absurd rfl he | exact h
  rw [mkAct_own a ds hnd]
  refine wp_region_any hm (key _ _ _ _ (by simp) ?_ ?_ ?_ hI ?_)
  · have : ((Array.replicate ops.size false).toList.take l.length).length ≤ l.length := List.length_take_le _ _
    have h2 := List.length_filter_le (fun x => !x) ((Array.replicate ops.size false).toList.take l.length)
    omega
  · intro j _
    simp only [Array.getD_eq_getD_getElem?, Array.getElem?_replicate]
    split <;> rfl
  · intro j hj
    simp only [Array.getD_eq_getD_getElem?, Array.getElem?_replicate] at hj
    split at hj <;> simp at hj
  · intro i hi hl
    simp only [Array.getD_eq_getD_getElem?, Array.getElem?_replicate] at hl
    split at hl <;> simp at hl
end
section
variable {P : Program} {ops : Array Oper} {rest : List Oper} {o : Oper} {a : Act} {Q : Exit → Act → World → Prop} {t e : TypeId}
/-- A constant of bytes. -/
theorem conv_const {W : World} (l : List UInt8) (hg : Region.wanted o (yielded ops a.tmps) = true) (x : Operand) (ho : o.op = .convert t t x) (ht : P.underlying t = some (.slice e)) (he : P.underlying e = some (.int .u8))
    (n c : Nat) (hn : l.length = n) (hm : n ≤ maxLen) (hx : a.eval x = .slice (some ⟨W.heap.size, 0, none⟩) n c) (hc : c = n)
    (h : ∀ w', Sl w' 1 (some ⟨W.heap.size, 0, none⟩) n n (bv l) → Same W w' → w'.heap.size = W.heap.size + 1 → wpList P ops Q rest (a.put o.dst (.slice (some ⟨W.heap.size, 0, none⟩) n n)) w') : wpList P ops Q (o :: rest) a (W.alloc (.cells (bv l).toArray e)) := by
  subst hc
  refine wpL hg fun K hK => ?_
  unfold Oper.wp execOp
  simp only [ho, Sem.run_bind, Sem.run_pure, Result.andThen_ok, hx, Lib.run_convert_bytes_const W t e _ _ _ ht he]
  refine hK _ _ (h _ ⟨by rw [bv_length, hn, Nat.mul_one], Nat.le_refl _, hm, (fun e => by cases e), ?_⟩ (Same.refl.alloc _) (by simp))
  intro b hb j u hu
  injection hb with hb
  subst hb
  rw [add0, World.cell?_alloc_mark]
  simpa using hu
end
/-- A box of bytes. -/
theorem sl_boxB {w : World} {e : TypeId} (l : List UInt8) (h : l.length ≤ maxLen) : Sl (w.alloc (.cells (bv l).toArray e)) 1 (some ⟨w.heap.size, 0, none⟩) l.length l.length (bv l) :=
  ⟨by rw [bv_length, Nat.mul_one], Nat.le_refl _, h, (fun e => by cases e), fun b hb => by injection hb with hb; subst hb; exact box_cells w (bv l) e⟩
end Go.Proofs.Ytmacgmmjgdmleaa
