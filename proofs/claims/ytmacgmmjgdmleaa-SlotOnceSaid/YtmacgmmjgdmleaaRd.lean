/-
  How arguments of any type are opened: cells that can be read as a value of a type, part by part.
-/
import Derived.Test.YtmacgmmjgdmleaaOpen
import Derived.SizedLaws
namespace Go.Proofs.Ytmacgmmjgdmleaa
open Go Go.ChangeShapes Go.WideShapes Go.ChangeAt Go.RowKit
set_option linter.unusedSimpArgs false
set_option linter.unusedVariables false
set_option maxRecDepth 100000

/-- The cells can be read as a value of type t, no part of which is too large. -/
def Rd {H : Type} (enc : TypeId × Value → H) (W : World) (t : TypeId) (cs : List Value) : Prop := ∃ fuel x, DataW.trod enc Try.prog W 0 (fun _ => true) true fuel t cs = some x ∧ ∀ n ∈ DataW.weights Try.prog t x.1, n ≤ 140737488351232
section
variable {H : Type} {enc : TypeId × Value → H} {W : World} {t e : TypeId} {cs : List Value} {v : Value} {d : DataW H} {ps : List MemPlace}
theorem Rd.of (h : DataW.Trod enc Try.prog W 0 (fun _ => true) true t v d ps) (hw : ∀ n ∈ DataW.weights Try.prog t d, n ≤ 140737488351232) : Rd enc W t v.cells.toList := by
  obtain ⟨f, hf⟩ := h
  exact ⟨f, _, hf, hw⟩
theorem Rd.bool (ht : Try.prog.underlying t = some .bool) (h : Rd enc W t cs) : ∃ b, cs = [.bool b] := by
  obtain ⟨f, x, h, _⟩ := h
  obtain ⟨b, h1, _⟩ := DataW.trod_bool ht h
  exact ⟨b, h1⟩
theorem Rd.int {k : IntKind} (ht : Try.prog.underlying t = some (.int k)) (h : Rd enc W t cs) : ∃ n, cs = [.int k n] ∧ (Lit.int k n).wf = true := by
  obtain ⟨f, x, h, _⟩ := h
  obtain ⟨b, h1, _, h2⟩ := DataW.trod_int ht h
  exact ⟨b, h1, h2⟩
theorem Rd.str (ht : Try.prog.underlying t = some .string) (h : Rd enc W t cs) : ∃ s : ByteArray, cs = [.string s] ∧ s.size ≤ 140737488351232 := by
  obtain ⟨f, x, h, hw⟩ := h
  obtain ⟨b, h1, rfl, h2⟩ := DataW.trod_string ht h
  exact ⟨b, h1, hw _ (by simp [DataW.weights])⟩
theorem weights_all {P : Program} {l : List (DataW H)} (hd : d ∈ l) : ∀ n ∈ DataW.weights P e d, n ∈ DataW.weightsAll P e l := by
  induction l with
  | nil => cases hd
  | cons y l ih =>
    intro n hn
    rw [DataW.weightsAll]
    rcases List.mem_cons.1 hd with rfl | hd
    · exact List.mem_append_left _ hn
    · exact List.mem_append_right _ (ih hd n hn)
theorem Rd.struct {fs : Array Field} (ht : Try.prog.underlying t = some (.struct fs)) (h : Rd enc W t cs) :
    cs.length = Try.prog.cellsOf t ∧ ∀ (i : Nat) (f : Field), fs[i]? = some f → Rd enc W f.type ((cs.drop f.offset).take (Try.prog.cellsOf f.type)) := by
  obtain ⟨f, x, h, hw⟩ := h
  obtain ⟨xs, n, _, rfl, h1, h2, h3⟩ := DataW.trod_struct ht h
  refine ⟨h1, fun i f hf => ?_⟩
  have hi : i < xs.length := by rw [h2]; exact (Array.getElem?_eq_some_iff.1 hf).1
  refine ⟨n, xs[i], (h3 i f hf).trans (List.getElem?_eq_getElem hi), fun m hm => hw m ?_⟩
  rw [DataW.weights, ht]
  exact DataW.weights_mem_each (j := i) (t := f.type) (d := xs[i].1) (by simp [hf]) (by simp [hi]) m hm
theorem Rd.array {n : Nat} (ht : Try.prog.underlying t = some (.array n e)) (h : Rd enc W t cs) :
    cs.length = Try.prog.cellsOf t ∧ ∀ (i : Nat), i < n → Rd enc W e ((cs.drop (i * Try.prog.cellsOf e)).take (Try.prog.cellsOf e)) := by
  obtain ⟨f, x, h, hw⟩ := h
  obtain ⟨xs, m, _, rfl, h1, h2, h3⟩ := DataW.trod_array ht h
  refine ⟨h1, fun i hi => ⟨m, xs[i], (h3 i hi).trans (List.getElem?_eq_getElem (by omega)), fun q hq => hw q ?_⟩⟩
  rw [DataW.weights, ht]
  exact weights_all (List.mem_map_of_mem (List.getElem_mem (by omega))) q hq
theorem flat_get {sz : Nat} (hz : 0 < sz) : ∀ (L : List (List Value)), (∀ x ∈ L, x.length = sz) → ∀ k u, L.flatten[k]? = some u → ∃ x, L[k / sz]? = some x ∧ x[k % sz]? = some u := by
  intro L
  induction L with
  | nil => intro _ k u h; simp at h
  | cons x L ih =>
    intro hL k u h
    have hx : x.length = sz := hL x (List.mem_cons_self ..)
    rw [List.flatten_cons] at h
    by_cases hk : k < sz
    · rw [List.getElem?_append_left (by omega)] at h
      rw [Nat.div_eq_of_lt hk, Nat.mod_eq_of_lt hk]
      exact ⟨x, rfl, h⟩
    · rw [List.getElem?_append_right (by omega), hx] at h
      obtain ⟨y, h1, h2⟩ := ih (fun y hy => hL y (List.mem_cons_of_mem _ hy)) _ _ h
      have e1 : k / sz = (k - sz) / sz + 1 := by
        rw [Nat.div_eq_sub_div hz (by omega)]
      have e2 : k % sz = (k - sz) % sz := by rw [Nat.mod_eq_sub_mod (by omega)]
      rw [e1, e2]
      exact ⟨y, by simpa using h1, h2⟩
theorem flat_length {sz : Nat} : ∀ (L : List (List Value)), (∀ x ∈ L, x.length = sz) → L.flatten.length = L.length * sz := by
  intro L
  induction L with
  | nil => intro _; simp
  | cons x L ih =>
    intro hL
    rw [List.flatten_cons, List.length_append, hL x (List.mem_cons_self ..), ih (fun y hy => hL y (List.mem_cons_of_mem _ hy)), List.length_cons, Nat.add_mul, Nat.one_mul, Nat.add_comm]

theorem Rd.slice {sz by_ : Nat} (ht : Try.prog.underlying t = some (.slice e)) (he : Try.prog.cellsOf e = sz) (hz : 0 < sz) (hby : Try.prog.bytesOf e = by_) (h : Rd enc W t cs) :
    ∃ (ao : Option Addr) (n c : Nat) (L : List (List Value)), cs = [.slice ao n c] ∧ Sl W sz ao n c L.flatten ∧ L.length = n ∧ (∀ x ∈ L, x.length = sz ∧ Rd enc W e x) ∧ c * by_ ≤ 140737488351232 := by
  obtain ⟨f, x, h, hw⟩ := h
  rcases DataW.trod_slice ht h with ⟨h0, _⟩ | ⟨a, len, cap, elems, rest, n, _, rfl, rfl, hb, hl, hm, hlen, hel, hsp, _⟩
  · exact ⟨_, _, _, [], h0, by simpa using Sl.none W sz, rfl, fun x hx => (by cases hx), by omega⟩
  · have hwe : ∀ y ∈ elems, ∀ q ∈ DataW.weights Try.prog e y.1, q ≤ 140737488351232 := by
      intro y hy q hq
      refine hw q ?_
      rw [DataW.weights, ht]
      exact List.mem_cons_of_mem _ (List.mem_append_left _ (weights_all (List.mem_map_of_mem hy) q hq))
    have hcap : cap * by_ ≤ 140737488351232 := by
      have h1 := (hsp rfl).1
      have h2 := hw ((elems.map (·.1)).length * 1 * 0 + ((elems.map (·.1)).length + (rest.map (·.1)).length) * Try.prog.bytesOf e) (by
        rw [DataW.weights, ht, Nat.mul_zero, Nat.zero_add]
        exact List.mem_cons_self ..)
      rw [List.length_map, List.length_map, h1, hlen, hby, Nat.mul_zero, Nat.zero_add, Nat.add_sub_cancel' hl] at h2
      exact h2
    have key : ∀ k, k ≤ len → ∃ L : List (List Value), L.length = k ∧ (∀ x ∈ L, x.length = sz ∧ Rd enc W e x) ∧ ∀ i x, L[i]? = some x → ∀ j u, x[j]? = some u → W.cell? (a.add (i * sz + j)) = some u := by
      intro k
      induction k with
      | zero => intro _; exact ⟨[], rfl, fun x hx => (by cases hx), fun i x hx => (by simp at hx)⟩
      | succ k ih =>
        intro hk
        obtain ⟨L, h1, h2, h3⟩ := ih (by omega)
        have h4 := hel k (by omega)
        rw [List.getElem?_eq_getElem (by omega), Option.bind_eq_some_iff, he] at h4
        obtain ⟨y, hy, h5⟩ := h4
        obtain ⟨_, h6, h7⟩ := World.cells?_some hy
        refine ⟨L ++ [y], by simp [h1], ?_, ?_⟩
        · intro x hx
          rcases List.mem_append.1 hx with hx | hx
          · exact h2 x hx
          · obtain rfl := List.mem_singleton.1 hx
            exact ⟨h6, n, _, h5, hwe _ (List.getElem_mem _)⟩
        · intro i x hx j u hu
          by_cases hi : i < L.length
          · rw [List.getElem?_append_left hi] at hx
            exact h3 i x hx j u hu
          · rw [List.getElem?_append_right (by omega)] at hx
            have hi2 : i = k := by
              have := (List.getElem?_eq_some_iff.1 hx).1
              simp at this
              omega
            subst hi2
            rw [h1, Nat.sub_self] at hx
            simp at hx
            subst hx
            have hj := (List.getElem?_eq_some_iff.1 hu).1
            rw [← Addr.add_add, h7 j (by omega)]
            exact hu
    obtain ⟨L, h1, h2, h3⟩ := key len (Nat.le_refl _)
    refine ⟨_, _, _, L, rfl, ⟨by rw [flat_length L fun x hx => (h2 x hx).1, h1], hl, hm, (fun e => by cases e), ?_⟩, h1, h2, hcap⟩
    intro b hb j u hu
    injection hb with hb
    subst hb
    obtain ⟨x, h4, h5⟩ := flat_get hz L (fun x hx => (h2 x hx).1) j u hu
    have := h3 _ _ h4 _ _ h5
    rwa [Nat.mul_comm, Nat.div_add_mod] at this
/-- An array of bytes. -/
theorem Rd.bytes {n : Nat} (ht : Try.prog.underlying t = some (.array n e)) (he : Try.prog.underlying e = some (.int .u8)) (hc : Try.prog.cellsOf e = 1) (hn : Try.prog.cellsOf t = n) (h : Rd enc W t cs) :
    ∃ l : List UInt8, cs = bv l ∧ l.length = n := by
  obtain ⟨h1, h2⟩ := h.array ht
  rw [hn] at h1
  rw [hc] at h2
  refine ⟨cs.map fun v => match v with | .int _ m => UInt8.ofNat m.toNat | _ => 0, ?_, by simpa using h1⟩
  apply List.ext_getElem
  · simp [bv]
  · intro i hi _
    have h3 := h2 i (by omega)
    rw [Nat.mul_one] at h3
    obtain ⟨m, hm, hw⟩ := h3.int he
    have e1 : cs[i] = .int .u8 m := by
      have : ((cs.drop i).take 1)[0]? = some cs[i] := by simp [hi]
      rw [hm] at this
      simpa using this.symm
    have hb := bounds_u8 hw
    simp only [bv, List.getElem_map, e1, UInt8.toNat_ofNat']
    congr 1
    omega
/-- A slice of one-cell values. -/
theorem flat_one {α : Type} {L : List (List Value)} {f : α → Value} {p : α → Prop} (h : ∀ x ∈ L, ∃ a, x = [f a] ∧ p a) : ∃ l : List α, L.flatten = l.map f ∧ l.length = L.length ∧ ∀ a ∈ l, p a := by
  induction L with
  | nil => exact ⟨[], rfl, rfl, fun a ha => by cases ha⟩
  | cons x L ih =>
    obtain ⟨a, rfl, hp⟩ := h x (List.mem_cons_self ..)
    obtain ⟨l, h1, h2, h3⟩ := ih fun y hy => h y (List.mem_cons_of_mem _ hy)
    refine ⟨a :: l, by simp [h1], by simp [h2], ?_⟩
    intro b hb
    rcases List.mem_cons.1 hb with rfl | hb
    · exact hp
    · exact h3 b hb
/-- A slice of elements of more cells. -/
theorem flat_many {α : Type} {L : List (List Value)} {f : α → List Value} {p : α → Prop} (h : ∀ x ∈ L, ∃ a, x = f a ∧ p a) : ∃ l : List α, L.flatten = (l.map f).flatten ∧ l.length = L.length ∧ ∀ a ∈ l, p a := by
  induction L with
  | nil => exact ⟨[], rfl, rfl, fun a ha => by cases ha⟩
  | cons x L ih =>
    obtain ⟨a, rfl, hp⟩ := h x (List.mem_cons_self ..)
    obtain ⟨l, h1, h2, h3⟩ := ih fun y hy => h y (List.mem_cons_of_mem _ hy)
    refine ⟨a :: l, by simp [h1], by simp [h2], ?_⟩
    intro b hb
    rcases List.mem_cons.1 hb with rfl | hb
    · exact hp
    · exact h3 b hb
theorem toList_agg {cs : Array Value} {l : List Value} (h : (Value.agg cs).cells.toList = l) : cs = l.toArray := by
  have : cs.toList = l := by simpa [Value.cells] using h
  rw [← this]
theorem okWide_array {r : Reach} {b0 n : Nat} (ht : Try.prog.underlying t = some (.array n e)) (h : Value.okWide Try.prog W r b0 t v) : ∃ cs, v = .agg cs := by
  simp only [Value.okWide, ht] at h
  obtain ⟨cs, h1, _⟩ := h
  exact ⟨cs, h1⟩
/-- A field's cells. -/
theorem Rd.field {fs : Array Field} (h : Rd enc W t cs) (ht : Try.prog.underlying t = some (.struct fs)) (i : Nat) (f : Field) (hf : fs[i]? = some f) (o sz : Nat) (ho : f.offset = o) (hs : Try.prog.cellsOf f.type = sz) : Rd enc W f.type ((cs.drop o).take sz) := by
  subst ho
  subst hs
  exact (h.struct ht).2 i f hf
theorem flat_at {α : Type} {f : α → List Value} {sz : Nat} (hf : ∀ a, (f a).length = sz) : ∀ (l : List α) (k : Nat) (a : α), l[k]? = some a → ∀ j u, (f a)[j]? = some u → (l.map f).flatten[k * sz + j]? = some u := by
  intro l
  induction l with
  | nil => intro k a h; simp at h
  | cons x l ih =>
    intro k a h j u hu
    rw [List.map_cons, List.flatten_cons]
    have hj := (List.getElem?_eq_some_iff.1 hu).1
    rw [hf] at hj
    rcases k with _ | k
    · simp at h
      subst h
      rw [Nat.zero_mul, Nat.zero_add, List.getElem?_append_left (by rw [hf]; exact hj)]
      exact hu
    · rw [List.getElem?_append_right (by rw [hf, Nat.add_mul]; omega), hf, show (k + 1) * sz + j - sz = k * sz + j from by rw [Nat.add_mul]; omega]
      exact ih k a (by simpa using h) j u hu
/-- A value of one cell. -/
theorem cell_one {v x : Value} (h1 : v.cells = #[v]) (h : v.cells.toList = [x]) : v = x := by
  rw [h1] at h
  simpa using h
end

/-- Rows of bytes that came in. -/
theorem open_rows {H : Type} {enc : TypeId × Value → H} {W : World} {r : Reach} {b0 : Nat} {v : Value} {d : DataW H} {ps : List MemPlace} (hv : Value.okWide Try.prog W r b0 240 v) (h : DataW.Trod enc Try.prog W 0 (fun _ => true) true 240 v d ps) (hw : ∀ n ∈ DataW.weights Try.prog 240 d, n ≤ 140737488351232) :
    ∃ a : (Option Addr × Nat × Nat) × List ((Option Addr × Nat × Nat) × List UInt8), v = .slice a.1.1 a.1.2.1 a.1.2.2 ∧ Sl W 1 a.1.1 a.1.2.1 a.1.2.2 (a.2.map fun x => .slice x.1.1 x.1.2.1 x.1.2.2) ∧ (∀ x ∈ a.2, Sl W 1 x.1.1 x.1.2.1 x.1.2.2 (bv x.2) ∧ x.1.2.2 ≤ 140737488351232) ∧ a.1.2.2 * 24 ≤ 140737488351232 := by
  obtain ⟨ao, n, c, rfl⟩ := okWide_slice Try.underlying240 hv
  obtain ⟨ao', n', c', L, h1, h2, h3, h4, h8⟩ := (Rd.of h hw).slice Try.underlying240 (by kernel_rfl : Try.prog.cellsOf 166 = 1) (by decide) (by kernel_rfl : Try.prog.bytesOf 166 = 24)
  simp [Value.cells] at h1
  obtain ⟨rfl, rfl, rfl⟩ := h1
  obtain ⟨l, h5, h6, h7⟩ := flat_one (f := fun x : (Option Addr × Nat × Nat) × List UInt8 => Value.slice x.1.1 x.1.2.1 x.1.2.2) (p := fun x => Sl W 1 x.1.1 x.1.2.1 x.1.2.2 (bv x.2) ∧ x.1.2.2 ≤ 140737488351232) fun x hx => by
    obtain ⟨ao, n, c, L, g1, g2, g3, g4, g8⟩ := (h4 x hx).2.slice Try.underlying166 (by kernel_rfl : Try.prog.cellsOf 5 = 1) (by decide) (by kernel_rfl : Try.prog.bytesOf 5 = 1)
    obtain ⟨l, g5, g6, g7⟩ := flat_one (f := Value.int .u8) (p := fun n => (Lit.int .u8 n).wf = true) fun x hx => (g4 x hx).2.int Try.underlying5
    exact ⟨((ao, n, c), l.map fun n => UInt8.ofNat n.toNat), g1, by rw [← bytes_of g7, ← g5]; exact g2, by simpa using g8⟩
  exact ⟨((ao, n, c), l), rfl, h5 ▸ h2, h7, h8⟩
abbrev rows_zero : Value := .slice none 0 0

/-- A digest that came in. -/
theorem open_digest {H : Type} {enc : TypeId × Value → H} {W : World} {r : Reach} {b0 : Nat} {v : Value} {d : DataW H} {ps : List MemPlace} (hv : Value.okWide Try.prog W r b0 28 v) (h : DataW.Trod enc Try.prog W 0 (fun _ => true) true 28 v d ps) (hw : ∀ n ∈ DataW.weights Try.prog 28 d, n ≤ 140737488351232) :
    ∃ l : List UInt8, v = .agg (bv l).toArray ∧ l.length = 32 := by
  obtain ⟨cs, rfl⟩ := okWide_array Try.underlying28 hv
  obtain ⟨l, h1, h2⟩ := (Rd.of h hw).bytes Try.underlying28 Try.underlying5 (by kernel_rfl) (by kernel_rfl)
  exact ⟨l, by rw [toList_agg h1], h2⟩
abbrev digest_zero : Value := .agg (Array.replicate 32 (.int .u8 0))

/-- A tag that came in. -/
theorem open_tag {H : Type} {enc : TypeId × Value → H} {W : World} {r : Reach} {b0 : Nat} {v : Value} {d : DataW H} {ps : List MemPlace} (hv : Value.okWide Try.prog W r b0 88 v) (h : DataW.Trod enc Try.prog W 0 (fun _ => true) true 88 v d ps) (hw : ∀ n ∈ DataW.weights Try.prog 88 d, n ≤ 140737488351232) :
    ∃ l : List UInt8, v = .agg (bv l).toArray ∧ l.length = 16 := by
  obtain ⟨cs, rfl⟩ := okWide_array Try.underlying88 hv
  obtain ⟨l, h1, h2⟩ := (Rd.of h hw).bytes Try.underlying88 Try.underlying5 (by kernel_rfl) (by kernel_rfl)
  exact ⟨l, by rw [toList_agg h1], h2⟩
abbrev tag_zero : Value := .agg (Array.replicate 16 (.int .u8 0))
end Go.Proofs.Ytmacgmmjgdmleaa
