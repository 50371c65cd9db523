/-
  The walk of the law TallyReads: whatever a reader of any bytes is asked, it tells what the document says.
-/
-- @law bytes, rep acts
import Derived.Test.YtejdiganmghopaaLives1
import Derived.Test.YtejdiganmghopaaRRd
import Derived.Test.YtejdiganmghopaaRd
import Derived.Deep.DeepCutAuto
import Derived.Deep.CutBlock
namespace Go.Proofs.Ytejdiganmghopaa
open Go Go.RowKit
set_option linter.unusedSimpArgs false
set_option linter.unusedVariables false

theorem rNum_le (s : List UInt8 × Nat) (m : Int) : (Num.rNum s m).2.1.length ≤ s.1.length := by
  unfold Num.rNum
  split
  · exact Nat.le_refl _
  · split
    rename_i n size e _
    split
    · simp
    · split
      · simp
      · simp
theorem rText_le (s : List UInt8 × Nat) (m : Int) : (Num.rText s m).2.1.length ≤ s.1.length := by
  unfold Num.rText
  split
  · exact Nat.le_refl _
  · split
    rename_i n size e _
    split
    · simp
    · split
      · simp
      · split
        · simp
        · simp
theorem rRaw_le (s : List UInt8 × Nat) (m : Int) : (Num.rRaw s m).2.1.length ≤ s.1.length := by
  unfold Num.rRaw
  split
  · exact Nat.le_refl _
  · split
    · simp
    · split
      · simp
      · simp
set_option maxRecDepth 100000 in
set_option maxHeartbeats 400000 in
theorem reads_big (ao : Option Addr) (len cap : Nat) (io : Option Addr) (ilen icap : Nat) (w : World) (h : 5000 < len ∨ len ≤ 5000 ∧ 500 < ilen) :
    Calls Try.prog 7 #[.slice ao len cap, .slice io ilen icap] w fun e w' => e = .returned (.bool true) ∧ Same w w' := by
  have hl := Lib.hid lives1
  rcases h with h | ⟨h, h'⟩
  all_goals
    go_enter Try.func7, Try.ntmps7
    go_wp2_with fail
    refine (hl.out _).mono ?_
    rintro e w2 ⟨rfl, hs2⟩
    go_wp2
    go_ret
    exact ⟨rfl, hs2⟩
/-- A value told, the reader behind it. -/
def gotR (v0 : Value) (rb db : Nat) (t : List UInt8 × Nat) : Value → World → Prop := fun v w => v = v0 ∧ Rdr w rb db t
def gotRR (v0 : Value) (rb db : Nat) (t : List UInt8 × Nat) : Value → World → Prop := fun v w => v = v0 ∧ RRdr w rb db t
theorem gotR_stable (v0 : Value) (rb db : Nat) (t : List UInt8 × Nat) : Stable Same (gotR v0 rb db t) := fun _ _ _ k h => ⟨h.1, h.2.same k⟩
theorem gotRR_stable (v0 : Value) (rb db : Nat) (t : List UInt8 × Nat) : Stable Same (gotRR v0 rb db t) := fun _ _ _ k h => ⟨h.1, h.2.same k⟩
/-- Bytes told, the document's reader behind it. -/
def gotRaw (rb db : Nat) (X : List UInt8 × (List UInt8 × Nat)) : Value → World → Prop := fun v w => ∃ ao c, v = .slice ao X.1.length c ∧ Sl w 1 ao X.1.length c (bv X.1) ∧ RRdr w rb db X.2
theorem gotRaw_stable (rb db : Nat) (X : List UInt8 × (List UInt8 × Nat)) : Stable Same (gotRaw rb db X) := fun _ _ _ k ⟨ao, c, h, hs, hr⟩ => ⟨ao, c, h, hs.same k, hr.same k⟩
/-- A row of bytes, whatever they are. -/
def U8Row (w : World) (base : Nat) (v : Value) (n : Nat) : Prop := n = 0 ∨ ∃ g cap cur e, v = .slice (some ⟨g, 0, none⟩) n cap ∧ base ≤ g ∧ w.heap[g]? = some (.cells cur e (0, 0)) ∧ ∀ j, j < n → ∃ x : UInt8, cur[j]? = some (.int .u8 (x.toNat : Int))
theorem U8Row.of {w : World} {base n : Nat} {v : Value} {l : List UInt8} (h : Own w base 5 1 v n (bv l)) : U8Row w base v n := by
  have hl : l.length = n := by have := h.1; rw [bv_length] at this; omega
  rcases h.2 with ⟨rfl, h0⟩ | ⟨g, cap, cur, rfl, hb, hg, h1, h2, h3, h4⟩
  · rw [h0] at hl
    exact .inl (by have := h.1; rw [h0] at this; simp at this; omega)
  · refine .inr ⟨g, cap, cur, _, rfl, hb, hg, fun j hj => ⟨l[j]'(by omega), ?_⟩⟩
    have h5 : (cur.toList.take (n * 1))[j]? = (bv l)[j]? := by rw [h4]
    rw [List.getElem?_take, if_pos (by omega), bv_get (by omega)] at h5
    simpa using h5
theorem U8Row.keep {w w' : World} {base n : Nat} {v : Value} {p : Nat → Prop} (h : U8Row w base v n) (k : Keep p w w') (hp : ∀ x, base ≤ x → ¬ p x) : U8Row w' base v n := by
  rcases h with h | ⟨g, cap, cur, e, h1, h2, h3, h4⟩
  · exact .inl h
  · exact .inr ⟨g, cap, cur, e, h1, h2, (k.block g (blk_lt h3) (hp g h2)).trans h3, h4⟩
theorem U8Row.at {w : World} {base n c : Nat} {ao : Option Addr} (h : U8Row w base (.slice ao n c) n) {j : Nat} (hj : j < n) :
    ∃ g, ∃ x : UInt8, w.cell? ⟨g, j, none⟩ = some (.int .u8 (x.toNat : Int)) ∧ w.frozen? ⟨g, j, none⟩ = false ∧ base ≤ g ∧ ao = some ⟨g, 0, none⟩ ∧ ∀ z : UInt8, U8Row (w.setCell ⟨g, j, none⟩ (.int .u8 (z.toNat : Int))) base (.slice ao n c) n := by
  rcases h with h | ⟨g, cap, cur, e, h1, h2, h3, h4⟩
  · omega
  · injection h1 with h1 h1b h1c
    obtain ⟨x, hx⟩ := h4 j hj
    refine ⟨g, x, by rw [blk_cell h3]; exact hx, blk_frozen h3 j, h2, h1, fun z => .inr ⟨g, cap, cur.setIfInBounds j (.int .u8 (z.toNat : Int)), e, by rw [h1, h1c], h2, blk_set h3, ?_⟩⟩
    intro i hi
    by_cases hij : i = j
    · subst hij
      have hlt := (Array.getElem?_eq_some_iff.1 hx).1
      exact ⟨z, by simp [hlt]⟩
    · obtain ⟨y, hy⟩ := h4 i hi
      exact ⟨y, by rw [Array.getElem?_setIfInBounds_ne (fun h => hij h.symm)]; exact hy⟩
theorem gotR_keep {rb db b : Nat} (h1 : rb ≠ b) (h2 : db ≠ b) (v0 : Value) (t : List UInt8 × Nat) : Stable (Keep (fun x => x = b)) (gotR v0 rb db t) := fun _ _ _ k h => ⟨h.1, h.2.keep k h1 h2⟩
theorem gotRR_keep {rb db b : Nat} (h1 : rb ≠ b) (h2 : db ≠ b) (v0 : Value) (t : List UInt8 × Nat) : Stable (Keep (fun x => x = b)) (gotRR v0 rb db t) := fun _ _ _ k h => ⟨h.1, h.2.keep k h1 h2⟩
/-- Both readers stand at the same place. -/
def Both (w0 w : World) (rb db rb2 db2 : Nat) : Prop := ∃ s : List UInt8 × Nat, Rdr w rb db s ∧ RRdr w rb2 db2 s ∧ s.1.length ≤ 5000 ∧ Keep (fun x => x = rb ∨ x = rb2) w0 w
set_option maxRecDepth 100000 in
set_option maxHeartbeats 3200000 in
theorem reads_main (ao : Option Addr) (len cap : Nat) (b : List UInt8) (io : Option Addr) (ilen icap : Nat) (acts : List (Int × Int)) (w : World) (hb : Sl w 1 ao len cap (bv b)) (hlen : len ≤ 5000) (hi : Sl w 2 io ilen icap (acts.map actC).flatten) (hil : acts.length = ilen) (hilen : ilen ≤ 500) :
    Calls Try.prog 7 #[.slice ao len cap, .slice io ilen icap] w fun e w' => e = .returned (.bool true) ∧ Same w w' := by
  have hl := lives1
  have hbl : b.length = len := by have := hb.len; rw [bv_length] at this; omega
  have hown := Own.empty w 5 1
  have hb0 := hb.same (Same.alloc Same.refl (.cells #[] 5))
  replace hl := Lib.hid hl
  replace hb := Lib.hid hb
  replace hi := Lib.hid hi
  replace hil := Lib.hid hil
  replace hbl := Lib.hid hbl
  replace hown := Lib.hid hown
  replace hb0 := Lib.hid hb0
  go_enter Try.func7, Try.ntmps7
  go_upto_region 4 with (at_builtin; refine append_sl rfl _ _ rfl byT hown.out rfl rfl hb0.out bv_cell (by simp) (by omega) (by omega) ?_; intro v1 w1 ho1 hk1 hz1; clear hz1)
  have hs1 : Same w w1 := (Same.alloc Same.refl (.cells #[] 5)).keep hk1 (fun x hx hv => by simp [Value.ownBlock] at hv; omega)
  have ho1' : Own w1 w.heap.size 5 1 v1 len (bv b) := by rw [Nat.zero_add, List.nil_append] at ho1; exact ho1
  obtain ⟨oo, oc, rfl, hosl⟩ := ho1'.sl
  clear ho1 ho1' hk1 hown hb0
  have hrd := read_any oo len oc b w1 hosl (by omega)
  replace hosl := Lib.hid hosl
  replace hs1 := Lib.hid hs1
  replace hrd := Lib.hid hrd
  go_wp2_with fail
  refine hrd.out.mono ?_
  rintro e w2 ⟨rb, db, rfl, hr2, hrb, hdb, hs2⟩
  have hrr := rread_any ao len cap b w2 ((hb.out.same hs1.out).same hs2) (by omega)
  clear hrd
  replace hrr := Lib.hid hrr
  replace hr2 := Lib.hid hr2
  go_wp2_with fail
  refine hrr.out.mono ?_
  rintro e w3 ⟨rb2, db2, rfl, hq3, hrb2, hdb2, hs3⟩
  have hr3 := hr2.out.same hs3
  have hlt := hr2.out.lt
  have ho3 := (hosl.out.same hs2).same hs3
  have hs03 := (hs1.out.trans hs2).trans hs3
  have hb3 := hb.out.same hs03
  have hi3 := hi.out.same hs03
  have hw1 := hs1.out.size
  replace hw1 := Lib.hid hw1
  have hz1 := hs1.out.size
  have hz12 := hs2.size
  have hbk : ∀ q, oo = some q → bv b ≠ [] → q.block < w1.heap.size := fun q hq hne => hosl.out.lt hne hq
  have hbka : ∀ q, ao = some q → bv b ≠ [] → q.block < w1.heap.size := fun q hq hne => (hb.out.same hs1.out).lt hne hq
  have hbki : ∀ q, io = some q → (acts.map actC).flatten ≠ [] → q.block < w1.heap.size := fun q hq hne => (hi.out.same hs1.out).lt hne hq
  have hap : rb < rb2 ∧ db < rb2 ∧ rb < db2 ∧ db < db2 ∧ w1.heap.size ≤ rb ∧ w1.heap.size ≤ rb2 := ⟨by omega, by omega, by omega, by omega, by omega, by omega⟩
  have hat : Both w3 w3 rb db rb2 db2 := ⟨(b, 0), hr3, hq3, by rw [hbl.out]; exact hlen, Keep.refl⟩
  clear hr2 hr3 hq3 hs2 hs3 hrr hosl hrb hrb2 hdb hdb2 hlt hs1 hb hi hz1 hz12
  replace hs03 := Lib.hid hs03
  replace ho3 := Lib.hid ho3
  replace hb3 := Lib.hid hb3
  replace hi3 := Lib.hid hi3
  replace hbk := Lib.hid hbk
  replace hbka := Lib.hid hbka
  replace hbki := Lib.hid hbki
  replace hap := Lib.hid hap
  replace hat := Lib.hid hat
  go_wp2
  go_loopw [31] (fun i wr => ∃ k : Nat, k ≤ ilen ∧ i = .int .i64 k ∧ Both w3 wr rb db rb2 db2) (fun i _ => ilen - (intOf i).toNat)
  case atStart => exact ⟨0, by omega, rfl, hat.out⟩
  case round =>
    obtain ⟨k, hk, rfl, hbo⟩ := hrel
    by_cases hlt : k < ilen
    · obtain ⟨s, hr, hq, hsl, hkp⟩ := hbo
      obtain ⟨a, haa⟩ : ∃ a, acts[k]? = some a := ⟨acts[k]'(by rw [hil.out]; exact hlt), by simp [hil.out, hlt]⟩
      have hne : (acts.map actC).flatten ≠ [] := by
        intro h
        have h1 := hi3.out.len
        rw [h] at h1
        simp at h1
        omega
      obtain ⟨bk, off, rfl, hbk2, hcell⟩ := hi3.out.at hne
      have hap1 := hap.out
      have hbi := hbki.out _ rfl hne
      have hrange : wr.rangeAt bk (off + k * 2) (actC a) := by
        intro j v hj
        rw [Nat.add_assoc]
        exact hkp.cell (hcell _ _ (flat_at (f := actC) (sz := 2) (fun _ => rfl) acts k a haa j v hj)) (fun h => by simp at hbi; rcases h with h | h <;> simp at h <;> omega)
      obtain ⟨kd, nn⟩ := a
      replace hrange : wr.rangeAt bk (off + k * 2) [.int .i64 kd, .int .i64 nn] := hrange
      have q0 : 0 ≤ (k : Int) := by omega
      have q1 : (k : Int) < (ilen : Int) := by omega
      have qm : ilen ≤ icap := hi3.out.cap
      clear hcell hne haa hbi
      replace hrange := Lib.hid hrange
      replace hr := Lib.hid hr
      replace hq := Lib.hid hq
      replace hkp := Lib.hid hkp
      have hinfA : (Try.prog.info? 58).map (·.size) = some 2 := by kernel_rfl
      replace hinfA := Lib.hid hinfA
      go_upto_region 8 with (first | (refine load_mid rfl _ _ rfl bk (off + k * 2) rfl [.int .i64 kd, .int .i64 nn] _ hrange.out Try.underlying58 rfl hinfA.out ?_) | (refine alloc_new rfl 58 rfl #[.int .i64 0, .int .i64 0] (by kernel_rfl) ?_; intro wa ha9 hsa; have hla := blk_lt ha9; replace ha9 := Lib.hid ha9; replace hsa := Lib.hid hsa) | (refine store_row rfl _ _ _ rfl wr.heap.size #[.int .i64 kd, .int .i64 nn] rfl rfl _ _ ha9.out hinfA.out rfl (by simp [Value.oneCell']) ?_; intro wb hb9 hkb))
      have hsb : Same wr wb := hsa.out.keep hkb (fun x hx hv => by omega)
      have hr2 := hr.out.same hsb
      have hq2 := hq.out.same hsb
      have hkb0 : Keep (fun x => x = rb ∨ x = rb2) w3 wb := hkp.out.trans (Keep.of_same (p := fun _ => False) hsb) (fun _ _ h => h.elim)
      have hlr := hr.out.lt
      have hlq := hq.out.lt
      obtain ⟨p1, p2, p3, p4⟩ : rb ≠ rb2 ∧ db ≠ rb2 ∧ rb2 ≠ rb ∧ db2 ≠ rb := ⟨by omega, by omega, by omega, by omega⟩
      have p9 : ¬ (wr.heap.size = rb ∨ wr.heap.size = rb2) := by omega
      have c90 := blk_cell hb9 0
      have c91 := blk_cell hb9 1
      simp at c90 c91
      have hlb := blk_lt hb9
      clear hr hq hkp hsa hkb hb9 ha9 hla hrange
      have hr := Lib.hid hr2
      have hq := Lib.hid hq2
      clear hr2 hq2
      replace hkb0 := Lib.hid hkb0
      replace c90 := Lib.hid c90
      replace c91 := Lib.hid c91
      go_simp
      have c90' := c90.out
      go_upto_block 2 with fail
      go_cut [10] (fun v wx => v = .bool true ∧ Both w3 wx rb db rb2 db2)
      case first =>
        by_cases h0 : kd = 0
        · have hk1 : (kd == 0) = true := by simp [h0]
          go_upto_region 18 with fail
          have hX := fun w h => num_any rb db s nn w h
          have hY := fun w h => rnum_any rb2 db2 s nn w h
          have hle := rNum_le s nn
          obtain ⟨X, hXe⟩ : ∃ X, X = Num.rNum s nn := ⟨_, rfl⟩
          rw [← hXe] at hX hY hle
          clear hXe
          replace hX := Lib.hid hX
          replace hY := Lib.hid hY
          refine wp_region_mut (by kernel_rfl) [(63, 0), (64, 1), (65, 2), (66, 3), (67, 4), (68, 5), (69, 6), (70, 7)] [(3, (Keep (fun x => x = rb))), (7, (Keep (fun x => x = rb2)))] [(3, [3]), (7, [7]), (1000, [3]), (1001, [7])] [0, 1, 2, 3, 4, 5, 6, 7] [[], [], [1], [0, 2, 1000], [], [], [5], [4, 6, 1001]] Same (Keep (fun x => x = rb ∨ x = rb2) wb) [(fun w => Rdr w rb db s), (fun w => RRdr w rb2 db2 s)] [isV (.pointer (some ⟨rb, 0, none⟩)), isV (.pointer (some ⟨wr.heap.size, 1, none⟩)), isV (.int .i64 nn), gotR (.int .i64 (X.1 : Int)) rb db X.2, isV (.pointer (some ⟨rb2, 0, none⟩)), isV (.pointer (some ⟨wr.heap.size, 1, none⟩)), isV (.int .i64 nn), gotRR (.int .i64 (X.1 : Int)) rb2 db2 X.2] (Keep.drew) (by intro g hg; simp only [List.mem_cons, List.not_mem_nil, or_false] at hg; rcases hg with rfl | rfl; exact (hr.out.same Same.refl.drew); exact (hq.out.same Same.refl.drew)) (fun _ _ h k => h.trans (Keep.of_same (p := fun _ => False) k) (fun _ _ h => h.elim)) (by intro g hg; simp only [List.mem_cons, List.not_mem_nil, or_false] at hg; rcases hg with rfl | rfl; exact (fun _ _ h k => h.trans k (fun x _ hx => .inl hx)); exact (fun _ _ h k => h.trans k (fun x _ hx => .inr hx))) (by simp [isV_stable, isB_stable, isAny_stable, gotR_stable, gotRR_stable]) (by intro g hg; simp only [List.mem_cons, List.not_mem_nil, or_false] at hg; rcases hg with rfl | rfl; exact (fun _ _ k h => h.same k); exact (fun _ _ k h => h.same k)) (by simp [killsOf, List.zipIdx_cons, isV_stable, isAny_stable, gotR_keep p1 p2, gotRR_keep p3 p4]) (by simp [killsOf, List.zipIdx_cons]; exact ⟨fun _ _ k h => h.keep k p3 p4, fun _ _ k h => h.keep k p1 p2⟩) (by decide) (l := [_, _, _, _, _, _, _, _]) rfl (by decide) (by kernel_rfl) (by kernel_rfl) (by kernel_rfl) (by decide) ?_ ?_
          · refine ⟨?_, ?_, ?_, ?_, ?_, ?_, ?_, ?_, trivial⟩
            all_goals (intro u wx hI hp; simp only [mkAct, List.foldl_cons, List.foldl_nil, List.setIfInBounds_toArray, List.set_cons_succ, List.set_cons_zero])
            · -- operation 0
              go_wp2
              refine stg_v (x := (.pointer (some ⟨rb, 0, none⟩))) rfl Same.refl ?_
              first | (simp only [mkAct, List.foldl_cons, List.foldl_nil, List.setIfInBounds_toArray, List.set_cons_succ, List.set_cons_zero, upd, reduceIte, Nat.reduceEqDiff, Nat.reduceAdd, str]; done) | (simp [mkAct, upd, str, *]; done)
            · -- operation 1
              go_wp2
              refine stg_v (x := (.pointer (some ⟨wr.heap.size, 1, none⟩))) rfl Same.refl ?_
              first | (simp only [mkAct, List.foldl_cons, List.foldl_nil, List.setIfInBounds_toArray, List.set_cons_succ, List.set_cons_zero, upd, reduceIte, Nat.reduceEqDiff, Nat.reduceAdd, str]; done) | (simp [mkAct, upd, str, *]; done)
            · -- operation 2
              obtain ⟨f1, -⟩ := hp
              replace f1 : u 1 = (.pointer (some ⟨wr.heap.size, 1, none⟩)) := f1
              try simp only [f1, str]
              have cx := hI.cell (c91.out) (p9)
              go_wp2
              refine stg_v (x := (.int .i64 nn)) rfl Same.refl ?_
              first | (simp only [mkAct, List.foldl_cons, List.foldl_nil, List.setIfInBounds_toArray, List.set_cons_succ, List.set_cons_zero, upd, reduceIte, Nat.reduceEqDiff, Nat.reduceAdd, f1, str]; done) | (simp [mkAct, upd, f1, str, *]; done)
            · -- operation 3
              obtain ⟨f0, f2, fG0, -⟩ := hp
              replace f0 : u 0 = (.pointer (some ⟨rb, 0, none⟩)) := f0
              replace f2 : u 2 = (.int .i64 nn) := f2
              try simp only [f0, f2, str]
              go_wp2_with fail
              refine (hX.out _ fG0).mono ?_
              rintro e w1' ⟨rfl, hr', hk'⟩
              go_wp2
              refine stg_v (x := (.int .i64 (X.1 : Int))) ⟨rfl, hr'⟩ hk' ?_
              first | (simp only [mkAct, List.foldl_cons, List.foldl_nil, List.setIfInBounds_toArray, List.set_cons_succ, List.set_cons_zero, upd, reduceIte, Nat.reduceEqDiff, Nat.reduceAdd, f0, f2, str]; done) | (simp [mkAct, upd, f0, f2, str, *]; done)
            · -- operation 4
              go_wp2
              refine stg_v (x := (.pointer (some ⟨rb2, 0, none⟩))) rfl Same.refl ?_
              first | (simp only [mkAct, List.foldl_cons, List.foldl_nil, List.setIfInBounds_toArray, List.set_cons_succ, List.set_cons_zero, upd, reduceIte, Nat.reduceEqDiff, Nat.reduceAdd, str]; done) | (simp [mkAct, upd, str, *]; done)
            · -- operation 5
              go_wp2
              refine stg_v (x := (.pointer (some ⟨wr.heap.size, 1, none⟩))) rfl Same.refl ?_
              first | (simp only [mkAct, List.foldl_cons, List.foldl_nil, List.setIfInBounds_toArray, List.set_cons_succ, List.set_cons_zero, upd, reduceIte, Nat.reduceEqDiff, Nat.reduceAdd, str]; done) | (simp [mkAct, upd, str, *]; done)
            · -- operation 6
              obtain ⟨f5, -⟩ := hp
              replace f5 : u 5 = (.pointer (some ⟨wr.heap.size, 1, none⟩)) := f5
              try simp only [f5, str]
              have cx := hI.cell (c91.out) (p9)
              go_wp2
              refine stg_v (x := (.int .i64 nn)) rfl Same.refl ?_
              first | (simp only [mkAct, List.foldl_cons, List.foldl_nil, List.setIfInBounds_toArray, List.set_cons_succ, List.set_cons_zero, upd, reduceIte, Nat.reduceEqDiff, Nat.reduceAdd, f5, str]; done) | (simp [mkAct, upd, f5, str, *]; done)
            · -- operation 7
              obtain ⟨f4, f6, fG1, -⟩ := hp
              replace f4 : u 4 = (.pointer (some ⟨rb2, 0, none⟩)) := f4
              replace f6 : u 6 = (.int .i64 nn) := f6
              try simp only [f4, f6, str]
              go_wp2_with fail
              refine (hY.out _ fG1).mono ?_
              rintro e w1' ⟨rfl, hr', hk'⟩
              go_wp2
              refine stg_v (x := (.int .i64 (X.1 : Int))) ⟨rfl, hr'⟩ hk' ?_
              first | (simp only [mkAct, List.foldl_cons, List.foldl_nil, List.setIfInBounds_toArray, List.set_cons_succ, List.set_cons_zero, upd, reduceIte, Nat.reduceEqDiff, Nat.reduceAdd, f4, f6, str]; done) | (simp [mkAct, upd, f4, f6, str, *]; done)
          · intro u wx hI hR
            obtain ⟨r0, r1, r2, r3, r4, r5, r6, r7, -⟩ := hR
            replace r0 : u 0 = (.pointer (some ⟨rb, 0, none⟩)) := r0
            replace r1 : u 1 = (.pointer (some ⟨wr.heap.size, 1, none⟩)) := r1
            replace r2 : u 2 = (.int .i64 nn) := r2
            replace r4 : u 4 = (.pointer (some ⟨rb2, 0, none⟩)) := r4
            replace r5 : u 5 = (.pointer (some ⟨wr.heap.size, 1, none⟩)) := r5
            replace r6 : u 6 = (.int .i64 nn) := r6
            simp only [mkAct, List.foldl_cons, List.foldl_nil, List.setIfInBounds_toArray, List.set_cons_succ, List.set_cons_zero]
            try simp only [str, r0, r1, r2, r4, r5, r6]
            obtain ⟨e3, r3'⟩ := r3
            obtain ⟨e7, r7'⟩ := r7
            replace e3 : u 3 = .int .i64 (X.1 : Int) := e3
            replace e7 : u 7 = .int .i64 (X.1 : Int) := e7
            replace r3' : Rdr wx rb db X.2 := r3'
            replace r7' : RRdr wx rb2 db2 X.2 := r7'
            simp only [e3, e7]
            clear e3 e7
            replace r3' := Lib.hid r3'
            replace r7' := Lib.hid r7'
            go_wp2_with fail
            go_meet
            exact ⟨rfl, X.2, r3'.out, r7'.out, by omega, hkb0.out.trans hI (fun x _ hx => hx)⟩
        · have hk1 : (kd == 0) = false := by simp [h0]
          by_cases h1 : kd = 1
          · have hk2 : (kd == 1) = true := by simp [h1]
            go_upto_region 20 with fail
            have hX := fun w h => text_any rb db s nn w h
            have hY := fun w h => rtext_read rb2 db2 s nn w h
            have hle := rText_le s nn
            obtain ⟨X, hXe⟩ : ∃ X, X = Num.rText s nn := ⟨_, rfl⟩
            rw [← hXe] at hX hY hle
            clear hXe
            replace hX := Lib.hid hX
            replace hY := Lib.hid hY
            refine wp_region_mut (by kernel_rfl) [(74, 0), (75, 1), (76, 2), (77, 3), (78, 4), (79, 5), (80, 6), (81, 7)] [(3, (Keep (fun x => x = rb))), (7, (Keep (fun x => x = rb2)))] [(3, [3]), (7, [7]), (1000, [3]), (1001, [7])] [0, 1, 2, 3, 4, 5, 6, 7] [[], [], [1], [0, 2, 1000], [], [], [5], [4, 6, 1001]] Same (Keep (fun x => x = rb ∨ x = rb2) wb) [(fun w => Rdr w rb db s), (fun w => RRdr w rb2 db2 s)] [isV (.pointer (some ⟨rb, 0, none⟩)), isV (.pointer (some ⟨wr.heap.size, 1, none⟩)), isV (.int .i64 nn), gotR (str X.1) rb db X.2, isV (.pointer (some ⟨rb2, 0, none⟩)), isV (.pointer (some ⟨wr.heap.size, 1, none⟩)), isV (.int .i64 nn), gotRR (str X.1) rb2 db2 X.2] (Keep.drew) (by intro g hg; simp only [List.mem_cons, List.not_mem_nil, or_false] at hg; rcases hg with rfl | rfl; exact (hr.out.same Same.refl.drew); exact (hq.out.same Same.refl.drew)) (fun _ _ h k => h.trans (Keep.of_same (p := fun _ => False) k) (fun _ _ h => h.elim)) (by intro g hg; simp only [List.mem_cons, List.not_mem_nil, or_false] at hg; rcases hg with rfl | rfl; exact (fun _ _ h k => h.trans k (fun x _ hx => .inl hx)); exact (fun _ _ h k => h.trans k (fun x _ hx => .inr hx))) (by simp [isV_stable, isB_stable, isAny_stable, gotR_stable, gotRR_stable]) (by intro g hg; simp only [List.mem_cons, List.not_mem_nil, or_false] at hg; rcases hg with rfl | rfl; exact (fun _ _ k h => h.same k); exact (fun _ _ k h => h.same k)) (by simp [killsOf, List.zipIdx_cons, isV_stable, isAny_stable, gotR_keep p1 p2, gotRR_keep p3 p4]) (by simp [killsOf, List.zipIdx_cons]; exact ⟨fun _ _ k h => h.keep k p3 p4, fun _ _ k h => h.keep k p1 p2⟩) (by decide) (l := [_, _, _, _, _, _, _, _]) rfl (by decide) (by kernel_rfl) (by kernel_rfl) (by kernel_rfl) (by decide) ?_ ?_
            · refine ⟨?_, ?_, ?_, ?_, ?_, ?_, ?_, ?_, trivial⟩
              all_goals (intro u wx hI hp; simp only [mkAct, List.foldl_cons, List.foldl_nil, List.setIfInBounds_toArray, List.set_cons_succ, List.set_cons_zero])
              · -- operation 0
                go_wp2
                refine stg_v (x := (.pointer (some ⟨rb, 0, none⟩))) rfl Same.refl ?_
                first | (simp only [mkAct, List.foldl_cons, List.foldl_nil, List.setIfInBounds_toArray, List.set_cons_succ, List.set_cons_zero, upd, reduceIte, Nat.reduceEqDiff, Nat.reduceAdd, str]; done) | (simp [mkAct, upd, str, *]; done)
              · -- operation 1
                go_wp2
                refine stg_v (x := (.pointer (some ⟨wr.heap.size, 1, none⟩))) rfl Same.refl ?_
                first | (simp only [mkAct, List.foldl_cons, List.foldl_nil, List.setIfInBounds_toArray, List.set_cons_succ, List.set_cons_zero, upd, reduceIte, Nat.reduceEqDiff, Nat.reduceAdd, str]; done) | (simp [mkAct, upd, str, *]; done)
              · -- operation 2
                obtain ⟨f1, -⟩ := hp
                replace f1 : u 1 = (.pointer (some ⟨wr.heap.size, 1, none⟩)) := f1
                try simp only [f1, str]
                have cx := hI.cell (c91.out) (p9)
                go_wp2
                refine stg_v (x := (.int .i64 nn)) rfl Same.refl ?_
                first | (simp only [mkAct, List.foldl_cons, List.foldl_nil, List.setIfInBounds_toArray, List.set_cons_succ, List.set_cons_zero, upd, reduceIte, Nat.reduceEqDiff, Nat.reduceAdd, f1, str]; done) | (simp [mkAct, upd, f1, str, *]; done)
              · -- operation 3
                obtain ⟨f0, f2, fG0, -⟩ := hp
                replace f0 : u 0 = (.pointer (some ⟨rb, 0, none⟩)) := f0
                replace f2 : u 2 = (.int .i64 nn) := f2
                try simp only [f0, f2, str]
                go_wp2_with fail
                refine (hX.out _ fG0).mono ?_
                rintro e w1' ⟨rfl, hr', hk'⟩
                go_wp2
                refine stg_v (x := (str X.1)) ⟨rfl, hr'⟩ hk' ?_
                first | (simp only [mkAct, List.foldl_cons, List.foldl_nil, List.setIfInBounds_toArray, List.set_cons_succ, List.set_cons_zero, upd, reduceIte, Nat.reduceEqDiff, Nat.reduceAdd, f0, f2, str]; done) | (simp [mkAct, upd, f0, f2, str, *]; done)
              · -- operation 4
                go_wp2
                refine stg_v (x := (.pointer (some ⟨rb2, 0, none⟩))) rfl Same.refl ?_
                first | (simp only [mkAct, List.foldl_cons, List.foldl_nil, List.setIfInBounds_toArray, List.set_cons_succ, List.set_cons_zero, upd, reduceIte, Nat.reduceEqDiff, Nat.reduceAdd, str]; done) | (simp [mkAct, upd, str, *]; done)
              · -- operation 5
                go_wp2
                refine stg_v (x := (.pointer (some ⟨wr.heap.size, 1, none⟩))) rfl Same.refl ?_
                first | (simp only [mkAct, List.foldl_cons, List.foldl_nil, List.setIfInBounds_toArray, List.set_cons_succ, List.set_cons_zero, upd, reduceIte, Nat.reduceEqDiff, Nat.reduceAdd, str]; done) | (simp [mkAct, upd, str, *]; done)
              · -- operation 6
                obtain ⟨f5, -⟩ := hp
                replace f5 : u 5 = (.pointer (some ⟨wr.heap.size, 1, none⟩)) := f5
                try simp only [f5, str]
                have cx := hI.cell (c91.out) (p9)
                go_wp2
                refine stg_v (x := (.int .i64 nn)) rfl Same.refl ?_
                first | (simp only [mkAct, List.foldl_cons, List.foldl_nil, List.setIfInBounds_toArray, List.set_cons_succ, List.set_cons_zero, upd, reduceIte, Nat.reduceEqDiff, Nat.reduceAdd, f5, str]; done) | (simp [mkAct, upd, f5, str, *]; done)
              · -- operation 7
                obtain ⟨f4, f6, fG1, -⟩ := hp
                replace f4 : u 4 = (.pointer (some ⟨rb2, 0, none⟩)) := f4
                replace f6 : u 6 = (.int .i64 nn) := f6
                try simp only [f4, f6, str]
                go_wp2_with fail
                refine (hY.out _ fG1).mono ?_
                rintro e w1' ⟨rfl, hr', hk'⟩
                go_wp2
                refine stg_v (x := (str X.1)) ⟨rfl, hr'⟩ hk' ?_
                first | (simp only [mkAct, List.foldl_cons, List.foldl_nil, List.setIfInBounds_toArray, List.set_cons_succ, List.set_cons_zero, upd, reduceIte, Nat.reduceEqDiff, Nat.reduceAdd, f4, f6, str]; done) | (simp [mkAct, upd, f4, f6, str, *]; done)
            · intro u wx hI hR
              obtain ⟨r0, r1, r2, r3, r4, r5, r6, r7, -⟩ := hR
              replace r0 : u 0 = (.pointer (some ⟨rb, 0, none⟩)) := r0
              replace r1 : u 1 = (.pointer (some ⟨wr.heap.size, 1, none⟩)) := r1
              replace r2 : u 2 = (.int .i64 nn) := r2
              replace r4 : u 4 = (.pointer (some ⟨rb2, 0, none⟩)) := r4
              replace r5 : u 5 = (.pointer (some ⟨wr.heap.size, 1, none⟩)) := r5
              replace r6 : u 6 = (.int .i64 nn) := r6
              simp only [mkAct, List.foldl_cons, List.foldl_nil, List.setIfInBounds_toArray, List.set_cons_succ, List.set_cons_zero]
              try simp only [str, r0, r1, r2, r4, r5, r6]
              obtain ⟨e3, r3'⟩ := r3
              obtain ⟨e7, r7'⟩ := r7
              replace e3 : u 3 = str X.1 := e3
              replace e7 : u 7 = str X.1 := e7
              replace r3' : Rdr wx rb db X.2 := r3'
              replace r7' : RRdr wx rb2 db2 X.2 := r7'
              simp only [e3, e7]
              clear e3 e7
              replace r3' := Lib.hid r3'
              replace r7' := Lib.hid r7'
              unfold str
              generalize (⟨X.1.toArray⟩ : ByteArray) = B
              have hself : (B.toList == B.toList) = true := beq_self_eq_true _
              go_wp2_with fail
              go_meet
              exact ⟨rfl, X.2, r3'.out, r7'.out, by omega, hkb0.out.trans hI (fun x _ hx => hx)⟩
          · have hk2 : (kd == 1) = false := by simp [h1]
            have hX := raw_any rb db s nn wb hr.out (by omega)
            have hY := fun w h => rraw_any rb2 db2 s nn w h (by omega)
            have hle := rRaw_le s nn
            obtain ⟨X, hXe⟩ : ∃ X, X = Num.rRaw s nn := ⟨_, rfl⟩
            rw [← hXe] at hX hY hle
            clear hXe
            replace hX := Lib.hid hX
            replace hY := Lib.hid hY
            have c91' := c91.out
            go_wp2_with fail
            refine hX.out.mono ?_
            rintro e w2' ⟨v11, rfl, ho11, hr', hk'⟩
            have hq' := hq.out.keep hk' p3 p4
            have hkb2 : Keep (fun x => x = rb ∨ x = rb2) w3 w2' := hkb0.out.trans hk' (fun x _ hx => .inl hx)
            have c91k : w2'.cell? ⟨wr.heap.size, 1, none⟩ = some (.int .i64 nn) := hk'.cell c91.out (fun h => p9 (.inl h))
            have hzb := hk'.size
            have hz3 := hkb0.out.size
            have ho12 := ho11
            obtain ⟨ro, rc, rfl, hrsl⟩ := ho11.sl
            clear c91' c91 hX hr hq hk' ho11 c90' c90 hkb0
            replace hr' := Lib.hid hr'
            replace hq' := Lib.hid hq'
            replace hkb2 := Lib.hid hkb2
            replace c91k := Lib.hid c91k
            replace ho12 := Lib.hid ho12
            replace hrsl := Lib.hid hrsl
            obtain ⟨L, hL⟩ : ∃ L, L = X.1.length := ⟨_, rfl⟩
            rw [← hL] at ho12 hrsl
            rw [← hL]
            replace hL := Lib.hid hL
            have hrne : ∀ q, ro = some q → bv X.1 ≠ [] → ¬ q.block = rb2 := by
              rintro q rfl hx rfl
              have := ho12.out.base q.block rfl
              omega
            have p9' : ¬ wr.heap.size = rb2 := fun h => p9 (.inr h)
            go_upto_region 11 with fail
            go_cut [10] (fun v wx => v = .bool true ∧ RRdr wx rb2 db2 X.2 ∧ Keep (fun x => x = rb2) w2' wx)
            case first =>
              refine wp_region_mut (by kernel_rfl) [(41, 0), (42, 1), (43, 2), (44, 3), (45, 4), (46, 5), (47, 6)] [(5, (Keep (fun x => x = rb2)))] [(5, [5]), (1000, [5])] [0, 1, 2, 3, 4, 5, 6, 1001] [[], [0, 1001], [], [], [3], [2, 4, 1000], [5]] Same (Keep (fun x => x = rb2) w2') [(fun w => RRdr w rb2 db2 s), (fun w => Sl w 1 ro L rc (bv X.1))] [isV (.slice ro L rc), isV (str X.1), isV (.pointer (some ⟨rb2, 0, none⟩)), isV (.pointer (some ⟨wr.heap.size, 1, none⟩)), isV (.int .i64 nn), gotRaw rb2 db2 X, isV (str X.1)] (Keep.drew) (by intro g hg; simp only [List.mem_cons, List.not_mem_nil, or_false] at hg; rcases hg with rfl | rfl; exact (hq'.out.same Same.refl.drew); exact (hrsl.out.same Same.refl.drew)) (fun _ _ h k => h.trans (Keep.of_same (p := fun _ => False) k) (fun _ _ h => h.elim)) (by intro g hg; simp only [List.mem_cons, List.not_mem_nil, or_false] at hg; obtain rfl := hg; exact (fun _ _ h k => h.trans k (fun x _ hx => hx))) (by simp [isV_stable, isB_stable, isAny_stable, gotRaw_stable]) (by intro g hg; simp only [List.mem_cons, List.not_mem_nil, or_false] at hg; rcases hg with rfl | rfl; exact (fun _ _ k h => h.same k); exact (fun _ _ k h => h.same k)) (by simp [killsOf, List.zipIdx_cons, isV_stable, isAny_stable]) (by simp [killsOf, List.zipIdx_cons]; exact fun _ _ k h => h.keep k hrne) (by decide) (l := [_, _, _, _, _, _, _]) rfl (by decide) (by kernel_rfl) (by kernel_rfl) (by kernel_rfl) (by decide) ?_ ?_
              · refine ⟨?_, ?_, ?_, ?_, ?_, ?_, ?_, trivial⟩
                all_goals (intro u wx hI hp; simp only [mkAct, List.foldl_cons, List.foldl_nil, List.setIfInBounds_toArray, List.set_cons_succ, List.set_cons_zero])
                · -- operation 0
                  go_wp2
                  refine stg_v (x := (.slice ro L rc)) rfl Same.refl ?_
                  first | (simp only [mkAct, List.foldl_cons, List.foldl_nil, List.setIfInBounds_toArray, List.set_cons_succ, List.set_cons_zero, upd, reduceIte, Nat.reduceEqDiff, Nat.reduceAdd, str]; done) | (simp [mkAct, upd, str, *]; done)
                · -- operation 1
                  obtain ⟨f0, fG1, -⟩ := hp
                  replace f0 : u 0 = (.slice ro L rc) := f0
                  try simp only [f0, str]
                  go_wp2_with (refine conv_string rfl _ rfl byT u8T strT rfl fG1 ?_)
                  refine stg_v (x := (str X.1)) rfl Same.refl ?_
                  first | (simp only [mkAct, List.foldl_cons, List.foldl_nil, List.setIfInBounds_toArray, List.set_cons_succ, List.set_cons_zero, upd, reduceIte, Nat.reduceEqDiff, Nat.reduceAdd, f0, str]; done) | (simp [mkAct, upd, f0, str, *]; done)
                · -- operation 2
                  go_wp2
                  refine stg_v (x := (.pointer (some ⟨rb2, 0, none⟩))) rfl Same.refl ?_
                  first | (simp only [mkAct, List.foldl_cons, List.foldl_nil, List.setIfInBounds_toArray, List.set_cons_succ, List.set_cons_zero, upd, reduceIte, Nat.reduceEqDiff, Nat.reduceAdd, str]; done) | (simp [mkAct, upd, str, *]; done)
                · -- operation 3
                  go_wp2
                  refine stg_v (x := (.pointer (some ⟨wr.heap.size, 1, none⟩))) rfl Same.refl ?_
                  first | (simp only [mkAct, List.foldl_cons, List.foldl_nil, List.setIfInBounds_toArray, List.set_cons_succ, List.set_cons_zero, upd, reduceIte, Nat.reduceEqDiff, Nat.reduceAdd, str]; done) | (simp [mkAct, upd, str, *]; done)
                · -- operation 4
                  obtain ⟨f3, -⟩ := hp
                  replace f3 : u 3 = (.pointer (some ⟨wr.heap.size, 1, none⟩)) := f3
                  try simp only [f3, str]
                  have cx := hI.cell (c91k.out) (p9')
                  go_wp2
                  refine stg_v (x := (.int .i64 nn)) rfl Same.refl ?_
                  first | (simp only [mkAct, List.foldl_cons, List.foldl_nil, List.setIfInBounds_toArray, List.set_cons_succ, List.set_cons_zero, upd, reduceIte, Nat.reduceEqDiff, Nat.reduceAdd, f3, str]; done) | (simp [mkAct, upd, f3, str, *]; done)
                · -- operation 5
                  obtain ⟨f2, f4, fG0, -⟩ := hp
                  replace f2 : u 2 = (.pointer (some ⟨rb2, 0, none⟩)) := f2
                  replace f4 : u 4 = (.int .i64 nn) := f4
                  try simp only [f2, f4, str]
                  go_wp2_with fail
                  refine (hY.out _ fG0).mono ?_
                  rintro e w1' ⟨v', rfl, ho', hr'', hk''⟩
                  obtain ⟨qo, qc, rfl, hqsl⟩ := ho'.sl
                  go_wp2
                  refine stg_v (x := (.slice qo X.1.length qc)) ⟨qo, qc, rfl, hqsl, hr''⟩ hk'' ?_
                  first | (simp only [mkAct, List.foldl_cons, List.foldl_nil, List.setIfInBounds_toArray, List.set_cons_succ, List.set_cons_zero, upd, reduceIte, Nat.reduceEqDiff, Nat.reduceAdd, f2, f4, str]; done) | (simp [mkAct, upd, f2, f4, str, *]; done)
                · -- operation 6
                  obtain ⟨f5, -⟩ := hp
                  obtain ⟨qo, qc, e5, hqsl, _⟩ := f5
                  replace e5 : u 5 = .slice qo X.1.length qc := e5
                  simp only [e5]
                  replace e5 := Lib.hid e5
                  replace hqsl := Lib.hid hqsl
                  go_wp2_with (refine conv_string rfl _ rfl byT u8T strT rfl hqsl.out ?_)
                  replace e5 := e5.out
                  refine stg_v (x := (str X.1)) rfl Same.refl ?_
                  first | (simp only [mkAct, List.foldl_cons, List.foldl_nil, List.setIfInBounds_toArray, List.set_cons_succ, List.set_cons_zero, upd, reduceIte, Nat.reduceEqDiff, Nat.reduceAdd, str]; done) | (simp [mkAct, upd, str, *]; done)
              · intro u wx hI hR
                obtain ⟨r0, r1, r2, r3, r4, r5, r6, rG1, -⟩ := hR
                replace r0 : u 0 = (.slice ro L rc) := r0
                replace r1 : u 1 = (str X.1) := r1
                replace r2 : u 2 = (.pointer (some ⟨rb2, 0, none⟩)) := r2
                replace r3 : u 3 = (.pointer (some ⟨wr.heap.size, 1, none⟩)) := r3
                replace r4 : u 4 = (.int .i64 nn) := r4
                replace r6 : u 6 = (str X.1) := r6
                simp only [mkAct, List.foldl_cons, List.foldl_nil, List.setIfInBounds_toArray, List.set_cons_succ, List.set_cons_zero]
                try simp only [str, r0, r1, r2, r3, r4, r6]
                obtain ⟨qo, qc, _, _, r5'⟩ := r5
                replace r5' : RRdr wx rb2 db2 X.2 := r5'
                replace r5' := Lib.hid r5'
                generalize (⟨X.1.toArray⟩ : ByteArray) = B
                have hself : (B.toList == B.toList) = true := beq_self_eq_true _
                go_wp2_with fail
                go_meet
                exact ⟨rfl, r5'.out, hI⟩
            case rest =>
              obtain ⟨rfl, hq2, hk2⟩ := hcut
              have hrow : U8Row wc wb.heap.size (.slice ro L rc) L := (U8Row.of ho12.out).keep hk2 (fun x hx => by omega)
              have hr3 := hr'.out.keep hk2 p1 p2
              have hkb3 : Keep (fun x => x = rb ∨ x = rb2) w3 wc := hkb2.out.trans hk2 (fun x _ hx => .inr hx)
              have hzc := hk2.size
              have hLb : L ≤ 9223372036854775807 := by have h1 := hrsl.out.cap; have h2 := hrsl.out.most; unfold maxLen at h2; omega
              clear hr' hq' hkb2 hk2 c91k ho12 hrsl hrne hY
              replace hq2 := Lib.hid hq2
              replace hr3 := Lib.hid hr3
              replace hkb3 := Lib.hid hkb3
              replace hrow := Lib.hid hrow
              rename_i wd
              go_wp2
              go_loopw [51] (fun i wx => ∃ j : Nat, j ≤ L ∧ i = .int .i64 j ∧ U8Row wx wb.heap.size (.slice ro L rc) L ∧ Keep (fun x => wb.heap.size ≤ x) wc wx) (fun i _ => L - (intOf i).toNat)
              case atStart => exact ⟨0, by omega, rfl, hrow.out, Keep.refl⟩
              case round =>
                obtain ⟨j, hj, rfl, hro, hkj⟩ := hrel
                by_cases hjl : j < L
                · obtain ⟨g, x, cc, fz, hg, rfl, hset⟩ := hro.at hjl
                  have hx := x.toNat_lt
                  have hkw : ∀ z : UInt8, Keep (fun x => wb.heap.size ≤ x) wc (wr.setCell ⟨g, j, none⟩ (.int .u8 (z.toNat : Int))) := fun z => hkj.trans (Keep.setCell (p := fun x => wb.heap.size ≤ x) _ hg) (fun _ _ h => h)
                  obtain ⟨z, hz⟩ : ∃ z : UInt8, ((x.toNat : Int) + 1) % 256 = (z.toNat : Int) := ⟨UInt8.ofNat (x.toNat + 1), by rw [UInt8.toNat_ofNat']; omega⟩
                  have q0 : 0 ≤ (j : Int) := by omega
                  have q1 : (j : Int) < (L : Int) := by omega
                  replace hset := Lib.hid (hset z)
                  replace hkw := Lib.hid (hkw z)
                  replace hkj := Lib.hid hkj
                  replace hz := Lib.hid hz
                  go_wp2
                  go_roundw
                  case rel =>
                    rw [hz.out]
                    exact ⟨j + 1, by omega, by go_num, hset.out, hkw.out⟩
                  case measure => simp [intOf]; omega
                · go_wp2_with fail
                  go_meet
                  exact ⟨rfl, X.2, hr3.out.keep hkj (by omega) (by omega), hq2.out.keep hkj (by omega) (by omega), by omega, hkb3.out.trans hkj (fun x hx hv => by omega)⟩
      case rest =>
        obtain ⟨rfl, s', hr', hq', hsl', hkp'⟩ := hcut
        have hL1 := fun w h => left2_any rb db s' w h
        have hL2 := fun w h => rleft_any rb2 db2 s' w h
        have hE1 := fun w h => err_any rb db s' w h
        have ce := hq'.err
        have hD1 := fun w h => done_any rb db s' w h
        have hD2 := fun w h => rdone_any rb2 db2 s' w h
        obtain ⟨lf, hlf⟩ : ∃ lf, lf = Num.rLeft s' := ⟨_, rfl⟩
        obtain ⟨dn, hdn⟩ : ∃ dn, dn = Num.rDone s' := ⟨_, rfl⟩
        obtain ⟨er, her⟩ : ∃ er, er = s'.2 := ⟨_, rfl⟩
        rw [← hlf] at hL1 hL2
        rw [← hdn] at hD1 hD2
        rw [← her] at hE1 ce
        clear hlf hdn her hr hq hkb0 c90 c91 hlr hlq
        have hneq : ∀ x : Int, (x != x) = false := fun x => by simp
        replace hL1 := Lib.hid hL1
        replace hL2 := Lib.hid hL2
        replace hE1 := Lib.hid hE1
        replace hD1 := Lib.hid hD1
        replace hD2 := Lib.hid hD2
        replace ce := Lib.hid ce
        replace hr' := Lib.hid hr'
        replace hq' := Lib.hid hq'
        replace hkp' := Lib.hid hkp'
        go_upto_region 21 with fail
        refine wp_region_facts (by kernel_rfl) [(83, 0), (84, 1), (85, 2), (86, 3), (87, 4), (88, 5), (89, 6), (90, 7), (91, 8), (92, 9), (93, 10), (94, 11), (95, 12), (96, 13), (97, 14), (98, 15), (99, 16), (100, 17), (101, 18), (102, 19), (103, 20), (104, 21), (105, 22), (106, 23), (107, 24)] Same (Same _) [isV (.bool true), isV (.bool false), isV (.bool false), isV (.pointer (some ⟨rb, 0, none⟩)), isV (.int .i64 (lf : Int)), isV (.pointer (some ⟨rb2, 0, none⟩)), isV (.int .i64 (lf : Int)), isV (.bool false), isV (.bool false), isV (.bool false), isV (.pointer (some ⟨rb, 0, none⟩)), isV (.int .i64 (er : Int)), isV (.pointer (some ⟨rb2, 0, none⟩)), isV (.pointer (some ⟨rb2, 0, none⟩)), isV (.pointer (some ⟨rb2, 2, none⟩)), isV (.int .i64 (er : Int)), isV (.bool false), isV (.bool false), isV (.bool false), isV (.pointer (some ⟨rb, 0, none⟩)), isV (.int .i64 (dn : Int)), isV (.pointer (some ⟨rb2, 0, none⟩)), isV (.int .i64 (dn : Int)), isV (.bool false), isV (.bool false)] Same.refl.drew (fun _ _ h k => h.trans k) (by simp [isV_stable, isB_stable, isAny_stable]) (by decide) (by decide) ?_ ?_
        · refine ⟨?_, ?_, ?_, ?_, ?_, ?_, ?_, ?_, ?_, ?_, ?_, ?_, ?_, ?_, ?_, ?_, ?_, ?_, ?_, ?_, ?_, ?_, ?_, ?_, ?_, trivial⟩
          all_goals (intro u wx hI hp; simp only [mkAct, List.foldl_cons, List.foldl_nil, List.setIfInBounds_toArray, List.set_cons_succ, List.set_cons_zero])
          · -- operation 0
            go_wp2
            refine stq_v rfl Same.refl ?_
            first | (simp only [mkAct, List.foldl_cons, List.foldl_nil, List.setIfInBounds_toArray, List.set_cons_succ, List.set_cons_zero, upd, reduceIte, Nat.reduceEqDiff, Nat.reduceAdd, str]; done) | (simp [mkAct, upd, str, *]; done)
          · -- operation 1
            obtain ⟨f0, -⟩ := hp
            replace f0 : u 0 = (.bool true) := f0
            try simp only [f0, str]
            go_wp2
            refine stq_v rfl Same.refl ?_
            first | (simp only [mkAct, List.foldl_cons, List.foldl_nil, List.setIfInBounds_toArray, List.set_cons_succ, List.set_cons_zero, upd, reduceIte, Nat.reduceEqDiff, Nat.reduceAdd, f0, str]; done) | (simp [mkAct, upd, f0, str, *]; done)
          · -- operation 2
            obtain ⟨f1, -⟩ := hp
            replace f1 : u 1 = (.bool false) := f1
            try simp only [f1, str]
            go_wp2
            refine stq_v rfl Same.refl ?_
            first | (simp only [mkAct, List.foldl_cons, List.foldl_nil, List.setIfInBounds_toArray, List.set_cons_succ, List.set_cons_zero, upd, reduceIte, Nat.reduceEqDiff, Nat.reduceAdd, f1, str]; done) | (simp [mkAct, upd, f1, str, *]; done)
          · -- operation 3
            obtain ⟨f2, -⟩ := hp
            replace f2 : u 2 = (.bool false) := f2
            try simp only [f2, str]
            go_wp2
            refine stq_v rfl Same.refl ?_
            first | (simp only [mkAct, List.foldl_cons, List.foldl_nil, List.setIfInBounds_toArray, List.set_cons_succ, List.set_cons_zero, upd, reduceIte, Nat.reduceEqDiff, Nat.reduceAdd, f2, str]; done) | (simp [mkAct, upd, f2, str, *]; done)
          · -- operation 4
            obtain ⟨f3, -, f2, -⟩ := hp
            replace f3 : u 3 = (.pointer (some ⟨rb, 0, none⟩)) := f3
            replace f2 : u 2 = (.bool false) := f2
            try simp only [f3, f2, str]
            go_wp2_with fail
            refine (hL1.out _ (hr'.out.same hI)).mono ?_
            rintro e w1 ⟨rfl, rfl⟩
            go_wp2
            refine stq_v rfl Same.refl ?_
            first | (simp only [mkAct, List.foldl_cons, List.foldl_nil, List.setIfInBounds_toArray, List.set_cons_succ, List.set_cons_zero, upd, reduceIte, Nat.reduceEqDiff, Nat.reduceAdd, f3, f2, str]; done) | (simp [mkAct, upd, f3, f2, str, *]; done)
          · -- operation 5
            obtain ⟨f2, -⟩ := hp
            replace f2 : u 2 = (.bool false) := f2
            try simp only [f2, str]
            go_wp2
            refine stq_v rfl Same.refl ?_
            first | (simp only [mkAct, List.foldl_cons, List.foldl_nil, List.setIfInBounds_toArray, List.set_cons_succ, List.set_cons_zero, upd, reduceIte, Nat.reduceEqDiff, Nat.reduceAdd, f2, str]; done) | (simp [mkAct, upd, f2, str, *]; done)
          · -- operation 6
            obtain ⟨f5, -, f2, -⟩ := hp
            replace f5 : u 5 = (.pointer (some ⟨rb2, 0, none⟩)) := f5
            replace f2 : u 2 = (.bool false) := f2
            try simp only [f5, f2, str]
            go_wp2_with fail
            refine (hL2.out _ (hq'.out.same hI)).mono ?_
            rintro e w1 ⟨rfl, hs'⟩
            go_wp2
            refine stq_v rfl hs' ?_
            first | (simp only [mkAct, List.foldl_cons, List.foldl_nil, List.setIfInBounds_toArray, List.set_cons_succ, List.set_cons_zero, upd, reduceIte, Nat.reduceEqDiff, Nat.reduceAdd, f5, f2, str]; done) | (simp [mkAct, upd, f5, f2, str, *]; done)
          · -- operation 7
            obtain ⟨f4, f6, f2, -⟩ := hp
            replace f4 : u 4 = (.int .i64 (lf : Int)) := f4
            replace f6 : u 6 = (.int .i64 (lf : Int)) := f6
            replace f2 : u 2 = (.bool false) := f2
            try simp only [f4, f6, f2, str]
            go_wp2
            refine stq_v rfl Same.refl ?_
            first | (simp only [mkAct, List.foldl_cons, List.foldl_nil, List.setIfInBounds_toArray, List.set_cons_succ, List.set_cons_zero, upd, reduceIte, Nat.reduceEqDiff, Nat.reduceAdd, f4, f6, f2, str]; done) | (simp [mkAct, upd, f4, f6, f2, str, *]; done)
          · -- operation 8
            obtain ⟨f2, f7, -⟩ := hp
            replace f2 : u 2 = (.bool false) := f2
            replace f7 : u 7 = (.bool false) := f7
            try simp only [f2, f7, str]
            go_wp2
            refine stq_v rfl Same.refl ?_
            first | (simp only [mkAct, List.foldl_cons, List.foldl_nil, List.setIfInBounds_toArray, List.set_cons_succ, List.set_cons_zero, upd, reduceIte, Nat.reduceEqDiff, Nat.reduceAdd, f2, f7, str]; done) | (simp [mkAct, upd, f2, f7, str, *]; done)
          · -- operation 9
            obtain ⟨f8, -, -⟩ := hp
            replace f8 : u 8 = (.bool false) := f8
            try simp only [f8, str]
            go_wp2
            refine stq_v rfl Same.refl ?_
            first | (simp only [mkAct, List.foldl_cons, List.foldl_nil, List.setIfInBounds_toArray, List.set_cons_succ, List.set_cons_zero, upd, reduceIte, Nat.reduceEqDiff, Nat.reduceAdd, f8, str]; done) | (simp [mkAct, upd, f8, str, *]; done)
          · -- operation 10
            obtain ⟨f9, -⟩ := hp
            replace f9 : u 9 = (.bool false) := f9
            try simp only [f9, str]
            go_wp2
            refine stq_v rfl Same.refl ?_
            first | (simp only [mkAct, List.foldl_cons, List.foldl_nil, List.setIfInBounds_toArray, List.set_cons_succ, List.set_cons_zero, upd, reduceIte, Nat.reduceEqDiff, Nat.reduceAdd, f9, str]; done) | (simp [mkAct, upd, f9, str, *]; done)
          · -- operation 11
            obtain ⟨f10, -, f9, -⟩ := hp
            replace f10 : u 10 = (.pointer (some ⟨rb, 0, none⟩)) := f10
            replace f9 : u 9 = (.bool false) := f9
            try simp only [f10, f9, str]
            go_wp2_with fail
            refine (hE1.out _ (hr'.out.same hI)).mono ?_
            rintro e w1 ⟨rfl, rfl⟩
            go_wp2
            refine stq_v rfl Same.refl ?_
            first | (simp only [mkAct, List.foldl_cons, List.foldl_nil, List.setIfInBounds_toArray, List.set_cons_succ, List.set_cons_zero, upd, reduceIte, Nat.reduceEqDiff, Nat.reduceAdd, f10, f9, str]; done) | (simp [mkAct, upd, f10, f9, str, *]; done)
          · -- operation 12
            obtain ⟨f9, -⟩ := hp
            replace f9 : u 9 = (.bool false) := f9
            try simp only [f9, str]
            go_wp2
            refine stq_v rfl Same.refl ?_
            first | (simp only [mkAct, List.foldl_cons, List.foldl_nil, List.setIfInBounds_toArray, List.set_cons_succ, List.set_cons_zero, upd, reduceIte, Nat.reduceEqDiff, Nat.reduceAdd, f9, str]; done) | (simp [mkAct, upd, f9, str, *]; done)
          · -- operation 13
            obtain ⟨f12, f9, -⟩ := hp
            replace f12 : u 12 = (.pointer (some ⟨rb2, 0, none⟩)) := f12
            replace f9 : u 9 = (.bool false) := f9
            try simp only [f12, f9, str]
            go_wp2
            refine stq_v rfl Same.refl ?_
            first | (simp only [mkAct, List.foldl_cons, List.foldl_nil, List.setIfInBounds_toArray, List.set_cons_succ, List.set_cons_zero, upd, reduceIte, Nat.reduceEqDiff, Nat.reduceAdd, f12, f9, str]; done) | (simp [mkAct, upd, f12, f9, str, *]; done)
          · -- operation 14
            obtain ⟨f13, f9, -⟩ := hp
            replace f13 : u 13 = (.pointer (some ⟨rb2, 0, none⟩)) := f13
            replace f9 : u 9 = (.bool false) := f9
            try simp only [f13, f9, str]
            go_wp2
            refine stq_v rfl Same.refl ?_
            first | (simp only [mkAct, List.foldl_cons, List.foldl_nil, List.setIfInBounds_toArray, List.set_cons_succ, List.set_cons_zero, upd, reduceIte, Nat.reduceEqDiff, Nat.reduceAdd, f13, f9, str]; done) | (simp [mkAct, upd, f13, f9, str, *]; done)
          · -- operation 15
            obtain ⟨f14, f9, -⟩ := hp
            replace f14 : u 14 = (.pointer (some ⟨rb2, 2, none⟩)) := f14
            replace f9 : u 9 = (.bool false) := f9
            try simp only [f14, f9, str]
            have cx := hI.cell (ce.out)
            go_wp2
            refine stq_v rfl Same.refl ?_
            first | (simp only [mkAct, List.foldl_cons, List.foldl_nil, List.setIfInBounds_toArray, List.set_cons_succ, List.set_cons_zero, upd, reduceIte, Nat.reduceEqDiff, Nat.reduceAdd, f14, f9, str]; done) | (simp [mkAct, upd, f14, f9, str, *]; done)
          · -- operation 16
            obtain ⟨f11, f15, f9, -⟩ := hp
            replace f11 : u 11 = (.int .i64 (er : Int)) := f11
            replace f15 : u 15 = (.int .i64 (er : Int)) := f15
            replace f9 : u 9 = (.bool false) := f9
            try simp only [f11, f15, f9, str]
            go_wp2
            refine stq_v rfl Same.refl ?_
            first | (simp only [mkAct, List.foldl_cons, List.foldl_nil, List.setIfInBounds_toArray, List.set_cons_succ, List.set_cons_zero, upd, reduceIte, Nat.reduceEqDiff, Nat.reduceAdd, f11, f15, f9, str]; done) | (simp [mkAct, upd, f11, f15, f9, str, *]; done)
          · -- operation 17
            obtain ⟨f9, f16, -⟩ := hp
            replace f9 : u 9 = (.bool false) := f9
            replace f16 : u 16 = (.bool false) := f16
            try simp only [f9, f16, str]
            go_wp2
            refine stq_v rfl Same.refl ?_
            first | (simp only [mkAct, List.foldl_cons, List.foldl_nil, List.setIfInBounds_toArray, List.set_cons_succ, List.set_cons_zero, upd, reduceIte, Nat.reduceEqDiff, Nat.reduceAdd, f9, f16, str]; done) | (simp [mkAct, upd, f9, f16, str, *]; done)
          · -- operation 18
            obtain ⟨f17, -, -⟩ := hp
            replace f17 : u 17 = (.bool false) := f17
            try simp only [f17, str]
            go_wp2
            refine stq_v rfl Same.refl ?_
            first | (simp only [mkAct, List.foldl_cons, List.foldl_nil, List.setIfInBounds_toArray, List.set_cons_succ, List.set_cons_zero, upd, reduceIte, Nat.reduceEqDiff, Nat.reduceAdd, f17, str]; done) | (simp [mkAct, upd, f17, str, *]; done)
          · -- operation 19
            obtain ⟨f18, -⟩ := hp
            replace f18 : u 18 = (.bool false) := f18
            try simp only [f18, str]
            go_wp2
            refine stq_v rfl Same.refl ?_
            first | (simp only [mkAct, List.foldl_cons, List.foldl_nil, List.setIfInBounds_toArray, List.set_cons_succ, List.set_cons_zero, upd, reduceIte, Nat.reduceEqDiff, Nat.reduceAdd, f18, str]; done) | (simp [mkAct, upd, f18, str, *]; done)
          · -- operation 20
            obtain ⟨f19, -, f18, -⟩ := hp
            replace f19 : u 19 = (.pointer (some ⟨rb, 0, none⟩)) := f19
            replace f18 : u 18 = (.bool false) := f18
            try simp only [f19, f18, str]
            go_wp2_with fail
            refine (hD1.out _ (hr'.out.same hI)).mono ?_
            rintro e w1 ⟨rfl, rfl⟩
            go_wp2
            refine stq_v rfl Same.refl ?_
            first | (simp only [mkAct, List.foldl_cons, List.foldl_nil, List.setIfInBounds_toArray, List.set_cons_succ, List.set_cons_zero, upd, reduceIte, Nat.reduceEqDiff, Nat.reduceAdd, f19, f18, str]; done) | (simp [mkAct, upd, f19, f18, str, *]; done)
          · -- operation 21
            obtain ⟨f18, -⟩ := hp
            replace f18 : u 18 = (.bool false) := f18
            try simp only [f18, str]
            go_wp2
            refine stq_v rfl Same.refl ?_
            first | (simp only [mkAct, List.foldl_cons, List.foldl_nil, List.setIfInBounds_toArray, List.set_cons_succ, List.set_cons_zero, upd, reduceIte, Nat.reduceEqDiff, Nat.reduceAdd, f18, str]; done) | (simp [mkAct, upd, f18, str, *]; done)
          · -- operation 22
            obtain ⟨f21, -, f18, -⟩ := hp
            replace f21 : u 21 = (.pointer (some ⟨rb2, 0, none⟩)) := f21
            replace f18 : u 18 = (.bool false) := f18
            try simp only [f21, f18, str]
            go_wp2_with fail
            refine (hD2.out _ (hq'.out.same hI)).mono ?_
            rintro e w1 ⟨rfl, hs'⟩
            go_wp2
            refine stq_v rfl hs' ?_
            first | (simp only [mkAct, List.foldl_cons, List.foldl_nil, List.setIfInBounds_toArray, List.set_cons_succ, List.set_cons_zero, upd, reduceIte, Nat.reduceEqDiff, Nat.reduceAdd, f21, f18, str]; done) | (simp [mkAct, upd, f21, f18, str, *]; done)
          · -- operation 23
            obtain ⟨f20, f22, f18, -⟩ := hp
            replace f20 : u 20 = (.int .i64 (dn : Int)) := f20
            replace f22 : u 22 = (.int .i64 (dn : Int)) := f22
            replace f18 : u 18 = (.bool false) := f18
            try simp only [f20, f22, f18, str]
            go_wp2
            refine stq_v rfl Same.refl ?_
            first | (simp only [mkAct, List.foldl_cons, List.foldl_nil, List.setIfInBounds_toArray, List.set_cons_succ, List.set_cons_zero, upd, reduceIte, Nat.reduceEqDiff, Nat.reduceAdd, f20, f22, f18, str]; done) | (simp [mkAct, upd, f20, f22, f18, str, *]; done)
          · -- operation 24
            obtain ⟨f18, f23, -⟩ := hp
            replace f18 : u 18 = (.bool false) := f18
            replace f23 : u 23 = (.bool false) := f23
            try simp only [f18, f23, str]
            go_wp2
            refine stq_v rfl Same.refl ?_
            first | (simp only [mkAct, List.foldl_cons, List.foldl_nil, List.setIfInBounds_toArray, List.set_cons_succ, List.set_cons_zero, upd, reduceIte, Nat.reduceEqDiff, Nat.reduceAdd, f18, f23, str]; done) | (simp [mkAct, upd, f18, f23, str, *]; done)
        · intro u wx hI hR
          obtain ⟨r0, r1, r2, r3, r4, r5, r6, r7, r8, r9, r10, r11, r12, r13, r14, r15, r16, r17, r18, r19, r20, r21, r22, r23, r24, -⟩ := hR
          replace r0 : u 0 = (.bool true) := r0
          replace r1 : u 1 = (.bool false) := r1
          replace r2 : u 2 = (.bool false) := r2
          replace r3 : u 3 = (.pointer (some ⟨rb, 0, none⟩)) := r3
          replace r4 : u 4 = (.int .i64 (lf : Int)) := r4
          replace r5 : u 5 = (.pointer (some ⟨rb2, 0, none⟩)) := r5
          replace r6 : u 6 = (.int .i64 (lf : Int)) := r6
          replace r7 : u 7 = (.bool false) := r7
          replace r8 : u 8 = (.bool false) := r8
          replace r9 : u 9 = (.bool false) := r9
          replace r10 : u 10 = (.pointer (some ⟨rb, 0, none⟩)) := r10
          replace r11 : u 11 = (.int .i64 (er : Int)) := r11
          replace r12 : u 12 = (.pointer (some ⟨rb2, 0, none⟩)) := r12
          replace r13 : u 13 = (.pointer (some ⟨rb2, 0, none⟩)) := r13
          replace r14 : u 14 = (.pointer (some ⟨rb2, 2, none⟩)) := r14
          replace r15 : u 15 = (.int .i64 (er : Int)) := r15
          replace r16 : u 16 = (.bool false) := r16
          replace r17 : u 17 = (.bool false) := r17
          replace r18 : u 18 = (.bool false) := r18
          replace r19 : u 19 = (.pointer (some ⟨rb, 0, none⟩)) := r19
          replace r20 : u 20 = (.int .i64 (dn : Int)) := r20
          replace r21 : u 21 = (.pointer (some ⟨rb2, 0, none⟩)) := r21
          replace r22 : u 22 = (.int .i64 (dn : Int)) := r22
          replace r23 : u 23 = (.bool false) := r23
          replace r24 : u 24 = (.bool false) := r24
          simp only [mkAct, List.foldl_cons, List.foldl_nil, List.setIfInBounds_toArray, List.set_cons_succ, List.set_cons_zero]
          try simp only [str, r0, r1, r2, r3, r4, r5, r6, r7, r8, r9, r10, r11, r12, r13, r14, r15, r16, r17, r18, r19, r20, r21, r22, r23, r24]
          have h5 : Both w3 wx rb db rb2 db2 := ⟨s', hr'.out.same hI, hq'.out.same hI, hsl', hkp'.out.trans (Keep.of_same (p := fun _ => False) hI) (fun _ _ h => h.elim)⟩
          replace h5 := Lib.hid h5
          go_wp2
          go_roundw
          case rel =>
            exact ⟨k + 1, by omega, by go_num, h5.out⟩
          case measure => simp [intOf]; omega
    · obtain rfl : k = ilen := by omega
      obtain ⟨s, hr, hq, hsl, hkp⟩ := hbo
      have hoF : Sl wr 1 oo len oc (bv b) := ho3.out.keep hkp (fun q hq hne => by have h1 := hbk.out q hq hne; have h2 := hap.out; rintro (h | h) <;> omega)
      have hbF : Sl wr 1 ao len cap (bv b) := hb3.out.keep hkp (fun q hq hne => by have h1 := hbka.out q hq hne; have h2 := hap.out; rintro (h | h) <;> omega)
      have hsF : Same w wr := hs03.out.keep hkp (fun x hx hv => by have h2 := hap.out; have h3 := hw1.out; rcases hv with h | h <;> omega)
      clear hr hq hkp hsl ho3 hb3 hi3 hs03
      replace hoF := Lib.hid hoF
      replace hbF := Lib.hid hbF
      replace hsF := Lib.hid hsF
      have hself : ∀ B : ByteArray, (B.toList == B.toList) = true := fun B => beq_self_eq_true _
      go_wp2_with (first | (refine conv_string rfl _ rfl byT u8T strT rfl hoF.out ?_) | (refine conv_string rfl _ rfl byT u8T strT rfl hbF.out ?_))
      refine (hl.out _).mono ?_
      rintro e w9 ⟨rfl, hs9⟩
      go_wp2
      go_ret
      exact ⟨rfl, hsF.out.trans hs9⟩
theorem walk_TallyReads (w : World) (ao : Option Addr) (len cap : Nat) (b : List UInt8) (hb : Sl w 1 ao len cap (bv b)) (a : (Option Addr × Nat × Nat) × List (Int × Int)) (ha : Sl w 2 a.1.1 a.1.2.1 a.1.2.2 (a.2.map actC).flatten ∧ a.2.length = a.1.2.1 ∧ ∀ x ∈ a.2, (Lit.int .i64 x.1).wf = true ∧ (Lit.int .i64 x.2).wf = true) :
    Calls Try.prog 7 #[.slice ao len cap, .slice a.1.1 a.1.2.1 a.1.2.2] w fun e w' => e = .returned (.bool true) ∧ Same w w' := by
  by_cases h : 5000 < len ∨ len ≤ 5000 ∧ 500 < a.1.2.1
  · exact reads_big ao len cap _ _ _ w h
  · exact reads_main ao len cap b _ _ _ a.2 w hb (by omega) ha.1 ha.2.1 (by omega)
end Go.Proofs.Ytejdiganmghopaa
