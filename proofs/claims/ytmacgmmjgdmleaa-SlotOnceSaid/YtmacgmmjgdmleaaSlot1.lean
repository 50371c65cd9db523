/-
  Votes, certs, held batches, entries, slots: the structs; when two are the same, by the program and by the document.
-/
import Derived.Test.YtmacgmmjgdmleaaBatH
import Derived.Test.YtmacgmmjgdmleaaBat2
import Derived.Test.YtmacgmmjgdmleaaBat5
import Derived.Deep.DeepCutAuto
namespace Go.Proofs.Ytmacgmmjgdmleaa
open Go Go.RowKit
set_option linter.unusedSimpArgs false
set_option linter.unusedVariables false

set_option maxRecDepth 100000
structure VoteV where
  kind : Int
  epoch : Int
  view : Int
  slot : Int
  dig : List UInt8
def VoteV.cells (v : VoteV) : List Value := [.int .i64 v.kind, .int .i64 v.epoch, .int .i64 v.view, .int .i64 v.slot] ++ bv v.dig
def VoteV.wf (v : VoteV) : Prop := v.dig.length = 32 ∧ (Lit.int .i64 v.kind).wf = true ∧ (Lit.int .i64 v.epoch).wf = true ∧ (Lit.int .i64 v.view).wf = true ∧ (Lit.int .i64 v.slot).wf = true
structure SignV where
  node : Int
  tag : List UInt8
def SignV.cells (s : SignV) : List Value := [.int .i64 s.node] ++ bv s.tag
def SignV.wf (s : SignV) : Prop := s.tag.length = 16 ∧ (Lit.int .i64 s.node).wf = true
def sv (l : List SignV) : List Value := (l.map SignV.cells).flatten
/-- A cert: its vote, its signs' address and capacity, its signs. -/
structure CertV where
  vote : VoteV
  so : Option Addr
  sc : Nat
  signs : List SignV
def CertV.cells (c : CertV) : List Value := c.vote.cells ++ [.slice c.so c.signs.length c.sc]
def CertV.at (w : World) (c : CertV) : Prop := c.vote.wf ∧ Sl w 17 c.so c.signs.length c.sc (sv c.signs) ∧ ∀ s ∈ c.signs, s.wf
theorem CertV.same' {w w' : World} {c : CertV} (h : c.at w) (k : Same w w') : c.at w' := ⟨h.1, h.2.1.same k, h.2.2⟩
theorem VoteV.len {v : VoteV} (h : v.wf) : v.cells.length = 36 := by rw [VoteV.cells, List.length_append, bv_length, h.1]; rfl
theorem SignV.len {s : SignV} (h : s.wf) : s.cells.length = 17 := by rw [SignV.cells, List.length_append, bv_length, h.1]; rfl
theorem CertV.len {c : CertV} (h : c.vote.wf) : c.cells.length = 37 := by rw [CertV.cells, List.length_append, VoteV.len h]; rfl
/-- A slot. -/
structure SlotV where
  view : Int
  bat : BatV
  is : Bool
  hbat : BatV
  hcert : CertV
  holds : Bool
  eslot : Int
  ebat : BatV
  ecert : CertV
  decided : Bool
def heldCells (b : BatV) (c : CertV) : List Value := b.cells ++ c.cells
def entCells (s : Int) (b : BatV) (c : CertV) : List Value := [.int .i64 s] ++ (b.cells ++ c.cells)
def SlotV.cells (s : SlotV) : List Value := [.int .i64 s.view] ++ (s.bat.cells ++ ([.bool s.is] ++ (heldCells s.hbat s.hcert ++ ([.bool s.holds] ++ (entCells s.eslot s.ebat s.ecert ++ [.bool s.decided])))))
def SlotV.at (w : World) (s : SlotV) : Prop := (Lit.int .i64 s.view).wf = true ∧ (Lit.int .i64 s.eslot).wf = true ∧ s.bat.at w ∧ s.hbat.at w ∧ s.hcert.at w ∧ s.ebat.at w ∧ s.ecert.at w
theorem SlotV.same' {w w' : World} {s : SlotV} (h : s.at w) (k : Same w w') : s.at w' := ⟨h.1, h.2.1, BatV.same h.2.2.1 k, BatV.same h.2.2.2.1 k, CertV.same' h.2.2.2.2.1 k, BatV.same h.2.2.2.2.2.1 k, CertV.same' h.2.2.2.2.2.2 k⟩
def SlotV.wf (s : SlotV) : Prop := s.hcert.vote.wf ∧ s.ecert.vote.wf
theorem SlotV.at.wf {w : World} {s : SlotV} (h : s.at w) : s.wf := ⟨h.2.2.2.2.1.1, h.2.2.2.2.2.2.1⟩
theorem bat_len (b : BatV) : b.cells.length = 2 := rfl
theorem held_len {b : BatV} {c : CertV} (h : c.vote.wf) : (heldCells b c).length = 39 := by rw [heldCells, List.length_append, CertV.len h]; rfl
theorem ent_len {s : Int} {b : BatV} {c : CertV} (h : c.vote.wf) : (entCells s b c).length = 40 := by rw [entCells, List.length_append, List.length_append, CertV.len h]; rfl
theorem SlotV.len {s : SlotV} (h : s.wf) : s.cells.length = 85 := by
  simp only [SlotV.cells, List.length_append, held_len h.1, ent_len h.2]
  rfl
theorem bat_oneL (b : BatV) : ∀ u ∈ b.cells, u.oneCell' = true := by intro u hu; simp only [BatV.cells, List.mem_cons, List.not_mem_nil, or_false] at hu; rcases hu with rfl | rfl <;> rfl
theorem vote_oneL (v : VoteV) : ∀ u ∈ v.cells, u.oneCell' = true := by
  intro u hu
  rcases List.mem_append.1 hu with h | h
  · simp only [List.mem_cons, List.not_mem_nil, or_false] at h
    rcases h with rfl | rfl | rfl | rfl <;> rfl
  · exact bv_cell u h
theorem cert_oneL (c : CertV) : ∀ u ∈ c.cells, u.oneCell' = true := by
  intro u hu
  rcases List.mem_append.1 hu with h | h
  · exact vote_oneL _ u h
  · simp only [List.mem_cons, List.not_mem_nil, or_false] at h
    subst h
    rfl
theorem held_oneL (b : BatV) (c : CertV) : ∀ u ∈ heldCells b c, u.oneCell' = true := by
  intro u hu
  rcases List.mem_append.1 hu with h | h
  · exact bat_oneL _ u h
  · exact cert_oneL _ u h
theorem ent_oneL (s : Int) (b : BatV) (c : CertV) : ∀ u ∈ entCells s b c, u.oneCell' = true := by
  intro u hu
  rcases List.mem_append.1 hu with h | h
  · simp only [List.mem_cons, List.not_mem_nil, or_false] at h
    subst h
    rfl
  · rcases List.mem_append.1 h with h | h
    · exact bat_oneL _ u h
    · exact cert_oneL _ u h
theorem slot_oneL (s : SlotV) : ∀ u ∈ s.cells, u.oneCell' = true := by
  intro u hu
  simp only [SlotV.cells, List.mem_append, List.mem_cons, List.not_mem_nil, or_false] at hu
  rcases hu with rfl | h | rfl | h | rfl | h | rfl
  · rfl
  · exact bat_oneL _ u h
  · rfl
  · exact held_oneL _ _ u h
  · rfl
  · exact ent_oneL _ _ _ u h
  · rfl
def zeroVote : VoteV := ⟨0, 0, 0, 0, List.replicate 32 0⟩
def zeroCert : CertV := ⟨zeroVote, none, 0, []⟩
def zeroSlot : SlotV := ⟨0, zeroBat, false, zeroBat, zeroCert, false, 0, zeroBat, zeroCert, false⟩
theorem zeroVote_wf : zeroVote.wf := ⟨rfl, by decide, by decide, by decide, by decide⟩
theorem zeroSlot_wf : zeroSlot.wf := ⟨zeroVote_wf, zeroVote_wf⟩
theorem zeroCert_at (w : World) : zeroCert.at w := ⟨zeroVote_wf, Sl.none w 17, fun s hs => by cases hs⟩
theorem zeroBat_at' (w : World) : zeroBat.at w := ⟨Sl.none w 19, fun r hr => by cases hr⟩
theorem zeroSlot_at (w : World) : zeroSlot.at w := ⟨by decide, by decide, zeroBat_at' w, zeroBat_at' w, zeroCert_at w, zeroBat_at' w, zeroCert_at w⟩
theorem all_of {l : List Value} (h : ∀ u ∈ l, u.oneCell' = true) : l.toArray.all (·.oneCell') = true := by simpa [List.all_eq_true] using h
theorem slot_one (s : SlotV) : s.cells.toArray.all (·.oneCell') = true := all_of (slot_oneL s)
theorem cert_one (c : CertV) : c.cells.toArray.all (·.oneCell') = true := all_of (cert_oneL c)
theorem vote_infoL {v : VoteV} (h : v.wf) : (Try.prog.info? 30).map (·.size) = some v.cells.length := by rw [VoteV.len h]; kernel_rfl
theorem sign_infoL {s : SignV} (h : s.wf) : (Try.prog.info? 219).map (·.size) = some s.cells.length := by rw [SignV.len h]; kernel_rfl
theorem cert_infoL {c : CertV} (h : c.vote.wf) : (Try.prog.info? 33).map (·.size) = some c.cells.length := by rw [CertV.len h]; kernel_rfl
theorem cert_info {c : CertV} (h : c.vote.wf) : (Try.prog.info? 33).map (·.size) = some c.cells.toArray.size := by rw [List.size_toArray]; exact cert_infoL h
theorem bat_infoL (b : BatV) : (Try.prog.info? 26).map (·.size) = some b.cells.length := by rw [bat_len]; kernel_rfl
theorem held_infoL {b : BatV} {c : CertV} (h : c.vote.wf) : (Try.prog.info? 38).map (·.size) = some (heldCells b c).length := by rw [held_len h]; kernel_rfl
theorem ent_infoL {s : Int} {b : BatV} {c : CertV} (h : c.vote.wf) : (Try.prog.info? 40).map (·.size) = some (entCells s b c).length := by rw [ent_len h]; kernel_rfl
theorem slot_info {s : SlotV} (h : s.wf) : (Try.prog.info? 42).map (·.size) = some s.cells.toArray.size := by rw [List.size_toArray, SlotV.len h]; kernel_rfl
theorem rslot_info {s : SlotV} (h : s.wf) : (Try.prog.info? 50).map (·.size) = some s.cells.toArray.size := by rw [List.size_toArray, SlotV.len h]; kernel_rfl
theorem slot_size {s t : SlotV} (h : s.wf) (k : t.wf) : s.cells.toArray.size = t.cells.toArray.size := by rw [List.size_toArray, List.size_toArray, SlotV.len h, SlotV.len k]
section
variable {w : World} {b T : Nat} {fr : Nat × Nat}
/-- What lies in the middle of a row. -/
theorem part_cell {pre post : List Value} {v : Value} {n : Nat} (h : w.heap[b]? = some (.cells (pre ++ ([v] ++ post)).toArray T (0, 0))) (hn : pre.length = n) : w.cell? ⟨b, n, none⟩ = some v := by
  rw [blk_cell h, List.getElem?_toArray, List.getElem?_append_right (by omega), hn, Nat.sub_self]
  rfl
theorem part_range {pre mid post : List Value} {n : Nat} (h : w.heap[b]? = some (.cells (pre ++ (mid ++ post)).toArray T (0, 0))) (hn : pre.length = n) : w.rangeAt b n mid := by
  intro j v hj
  have hlt := (List.getElem?_eq_some_iff.1 hj).1
  rw [blk_cell h, List.getElem?_toArray, List.getElem?_append_right (by omega), hn, show n + j - n = j from by omega, List.getElem?_append_left hlt]
  exact hj
theorem range_part {pre mid post : List Value} {o n : Nat} (h : w.rangeAt b o (pre ++ (mid ++ post))) (hn : pre.length = n) : w.rangeAt b (o + n) mid := by
  intro j v hj
  have hlt := (List.getElem?_eq_some_iff.1 hj).1
  have := h (n + j) v (by rw [List.getElem?_append_right (by omega), hn, show n + j - n = j from by omega, List.getElem?_append_left hlt]; exact hj)
  rw [Nat.add_assoc]
  exact this
end
theorem splice {pre mid post new : List Value} {n m : Nat} (hn : pre.length = n) (hm : mid.length = new.length) (hs : n + new.length = m) : (pre ++ (mid ++ post)).take n ++ (new ++ (pre ++ (mid ++ post)).drop m) = pre ++ (new ++ post) := by
  subst hn
  subst hs
  have e1 : (pre ++ (mid ++ post)).take pre.length = pre := by simp
  have e2 : (pre ++ (mid ++ post)).drop (pre.length + new.length) = post := by
    rw [← List.append_assoc, List.drop_append, List.drop_of_length_le (by rw [List.length_append]; omega), List.nil_append, List.length_append, hm, Nat.sub_self]
    rfl
  rw [e1, e2]
section
variable {w : World} {b T : Nat} {s : SlotV} (h : w.heap[b]? = some (.cells s.cells.toArray T (0, 0)))
include h
theorem sl_view : w.cell? ⟨b, 0, none⟩ = some (.int .i64 s.view) := by rw [blk_cell h]; rfl
theorem sl_is : w.cell? ⟨b, 3, none⟩ = some (.bool s.is) := by rw [blk_cell h]; rfl
theorem sl_bat : w.rangeAt b 1 s.bat.cells := part_range (pre := [.int .i64 s.view]) h rfl
theorem sl_held : w.rangeAt b 4 (heldCells s.hbat s.hcert) := part_range (pre := [.int .i64 s.view] ++ (s.bat.cells ++ [.bool s.is])) (by simpa only [SlotV.cells, List.append_assoc] using h) rfl
theorem sl_hbat : w.rangeAt b 4 s.hbat.cells := range_part (o := 4) (n := 0) (pre := []) (post := s.hcert.cells) (sl_held h) rfl
theorem sl_hcert : w.rangeAt b 6 s.hcert.cells := range_part (o := 4) (n := 2) (pre := s.hbat.cells) (post := []) (by rw [List.append_nil]; exact sl_held h) rfl
theorem sl_hview : w.cell? ⟨b, 8, none⟩ = some (.int .i64 s.hcert.vote.view) := sl_hcert h 2 _ rfl
theorem sl_hvote : w.rangeAt b 6 s.hcert.vote.cells := range_part (o := 6) (n := 0) (pre := []) (sl_hcert h) rfl
theorem sl_holds (hw : s.wf) : w.cell? ⟨b, 43, none⟩ = some (.bool s.holds) :=
  part_cell (pre := [.int .i64 s.view] ++ (s.bat.cells ++ ([.bool s.is] ++ heldCells s.hbat s.hcert))) (by simpa only [SlotV.cells, List.append_assoc] using h) (by simp only [List.length_append, held_len hw.1]; rfl)
theorem sl_ent (hw : s.wf) : w.rangeAt b 44 (entCells s.eslot s.ebat s.ecert) :=
  part_range (pre := [.int .i64 s.view] ++ (s.bat.cells ++ ([.bool s.is] ++ (heldCells s.hbat s.hcert ++ [.bool s.holds])))) (by simpa only [SlotV.cells, List.append_assoc] using h) (by simp only [List.length_append, held_len hw.1]; rfl)
theorem sl_eslot (hw : s.wf) : w.cell? ⟨b, 44, none⟩ = some (.int .i64 s.eslot) := sl_ent h hw 0 _ rfl
theorem sl_ebat (hw : s.wf) : w.rangeAt b 45 s.ebat.cells := range_part (o := 44) (n := 1) (pre := [.int .i64 s.eslot]) (sl_ent h hw) rfl
theorem sl_ecert (hw : s.wf) : w.rangeAt b 47 s.ecert.cells := range_part (o := 44) (n := 3) (pre := [.int .i64 s.eslot] ++ s.ebat.cells) (post := []) (by rw [List.append_nil, List.append_assoc]; exact sl_ent h hw) rfl
theorem sl_decided (hw : s.wf) : w.cell? ⟨b, 84, none⟩ = some (.bool s.decided) :=
  part_cell (post := []) (pre := [.int .i64 s.view] ++ (s.bat.cells ++ ([.bool s.is] ++ (heldCells s.hbat s.hcert ++ ([.bool s.holds] ++ entCells s.eslot s.ebat s.ecert))))) (by simpa only [SlotV.cells, List.append_assoc, List.append_nil] using h) (by simp only [List.length_append, held_len hw.1, ent_len hw.2]; rfl)
theorem sl_hsigns (hw : s.wf) : w.cell? ⟨b, 42, none⟩ = some (.slice s.hcert.so s.hcert.signs.length s.hcert.sc) := by
  have := sl_hcert h 36 (.slice s.hcert.so s.hcert.signs.length s.hcert.sc) (by rw [CertV.cells, List.getElem?_append_right (by rw [VoteV.len hw.1]; exact Nat.le_refl _), VoteV.len hw.1]; rfl)
  exact this
theorem sl_esigns (hw : s.wf) : w.cell? ⟨b, 83, none⟩ = some (.slice s.ecert.so s.ecert.signs.length s.ecert.sc) := by
  have := sl_ecert h hw 36 (.slice s.ecert.so s.ecert.signs.length s.ecert.sc) (by rw [CertV.cells, List.getElem?_append_right (by rw [VoteV.len hw.2]; exact Nat.le_refl _), VoteV.len hw.2]; rfl)
  exact this
end
section
variable {w : World} {b T : Nat} {c : CertV} (h : w.heap[b]? = some (.cells c.cells.toArray T (0, 0)))
include h
theorem ce_kind : w.cell? ⟨b, 0, none⟩ = some (.int .i64 c.vote.kind) := by rw [blk_cell h]; rfl
theorem ce_view : w.cell? ⟨b, 2, none⟩ = some (.int .i64 c.vote.view) := by rw [blk_cell h]; rfl
theorem ce_slot : w.cell? ⟨b, 3, none⟩ = some (.int .i64 c.vote.slot) := by rw [blk_cell h]; rfl
theorem ce_dig : w.rangeAt b 4 (bv c.vote.dig) := part_range (pre := [.int .i64 c.vote.kind, .int .i64 c.vote.epoch, .int .i64 c.vote.view, .int .i64 c.vote.slot]) (post := [.slice c.so c.signs.length c.sc]) (by simpa only [CertV.cells, VoteV.cells, List.append_assoc] using h) rfl
theorem ce_vote : w.rangeAt b 0 c.vote.cells := part_range (pre := []) (post := [.slice c.so c.signs.length c.sc]) h rfl
theorem ce_signs (hw : c.vote.wf) : w.cell? ⟨b, 36, none⟩ = some (.slice c.so c.signs.length c.sc) := part_cell (pre := c.vote.cells) (post := []) h (VoteV.len hw)
end
/-- What is stored into a slot's row. -/
theorem set_is (s : SlotV) (x : Bool) : s.cells.take 3 ++ ([.bool x] ++ s.cells.drop 4) = ({ s with is := x } : SlotV).cells := rfl
theorem set_view (s : SlotV) (x : Int) : s.cells.take 0 ++ ([.int .i64 x] ++ s.cells.drop 1) = ({ s with view := x } : SlotV).cells := rfl
theorem set_bat (s : SlotV) (x : BatV) : s.cells.take 1 ++ (x.cells ++ s.cells.drop (1 + x.cells.length)) = ({ s with bat := x } : SlotV).cells := rfl
theorem set_held {s : SlotV} (h : s.wf) (x : BatV) (c : CertV) (hc : c.vote.wf) : s.cells.take 4 ++ (heldCells x c ++ s.cells.drop (4 + (heldCells x c).length)) = ({ s with hbat := x, hcert := c } : SlotV).cells := by
  have e : s.cells = ([.int .i64 s.view] ++ (s.bat.cells ++ [.bool s.is])) ++ (heldCells s.hbat s.hcert ++ ([.bool s.holds] ++ (entCells s.eslot s.ebat s.ecert ++ [.bool s.decided]))) := by simp only [SlotV.cells, List.append_assoc]
  rw [e, splice (n := 4) rfl (by rw [held_len h.1, held_len hc]) rfl]
  simp only [SlotV.cells, List.append_assoc]
theorem set_holds {s : SlotV} (h : s.wf) (x : Bool) : s.cells.take 43 ++ ([.bool x] ++ s.cells.drop 44) = ({ s with holds := x } : SlotV).cells := by
  have e : s.cells = ([.int .i64 s.view] ++ (s.bat.cells ++ ([.bool s.is] ++ heldCells s.hbat s.hcert))) ++ ([.bool s.holds] ++ (entCells s.eslot s.ebat s.ecert ++ [.bool s.decided])) := by simp only [SlotV.cells, List.append_assoc]
  rw [e, splice (n := 43) (m := 44) (mid := [.bool s.holds]) (new := [.bool x]) (by simp only [List.length_append, held_len h.1]; rfl) rfl rfl]
  simp only [SlotV.cells, List.append_assoc]
theorem set_ent {s : SlotV} (h : s.wf) (n : Int) (x : BatV) (c : CertV) (hc : c.vote.wf) : s.cells.take 44 ++ (entCells n x c ++ s.cells.drop (44 + (entCells n x c).length)) = ({ s with eslot := n, ebat := x, ecert := c } : SlotV).cells := by
  have e : s.cells = ([.int .i64 s.view] ++ (s.bat.cells ++ ([.bool s.is] ++ (heldCells s.hbat s.hcert ++ [.bool s.holds])))) ++ (entCells s.eslot s.ebat s.ecert ++ [.bool s.decided]) := by simp only [SlotV.cells, List.append_assoc]
  rw [e, splice (n := 44) (by simp only [List.length_append, held_len h.1]; rfl) (by rw [ent_len h.2, ent_len hc]) rfl]
  simp only [SlotV.cells, List.append_assoc]
theorem set_decided {s : SlotV} (h : s.wf) (x : Bool) : s.cells.take 84 ++ ([.bool x] ++ s.cells.drop 85) = ({ s with decided := x } : SlotV).cells := by
  have e : s.cells = ([.int .i64 s.view] ++ (s.bat.cells ++ ([.bool s.is] ++ (heldCells s.hbat s.hcert ++ ([.bool s.holds] ++ entCells s.eslot s.ebat s.ecert))))) ++ ([.bool s.decided] ++ []) := by simp only [SlotV.cells, List.append_assoc, List.append_nil]
  rw [e, splice (n := 84) (m := 85) (mid := [.bool s.decided]) (new := [.bool x]) (by simp only [List.length_append, held_len h.1, ent_len h.2]; rfl) rfl rfl]
  simp only [SlotV.cells, List.append_assoc, List.append_nil]
section
variable {P : Program} {ops : Array Oper} {rest : List Oper} {o : Oper} {a : Act} {Q : Exit → Act → World → Prop}
/-- One cell stored into the middle of a row. -/
theorem store_one {W : World} (hg : Region.wanted o (yielded ops a.tmps) = true) (ty : TypeId) (x y : Operand) (ho : o.op = .store ty x y) (b off : Nat) (v : Value) (hx : a.eval x = .pointer (some ⟨b, off, none⟩)) (hy : a.eval y = v) (hv : v.cells = #[v]) (h1 : v.oneCell' = true)
    (T : TypeId) (old : List Value) (hb : W.heap[b]? = some (.cells old.toArray T (0, 0))) (hi : (P.info? ty).map (·.size) = some 1) (hfit : off < old.length)
    (h : ∀ w', w'.heap[b]? = some (.cells (old.take off ++ ([v] ++ old.drop (off + 1))).toArray T (0, 0)) → Keep (· = b) W w' → wpList P ops Q rest (a.put o.dst undef) w') : wpList P ops Q (o :: rest) a W := by
  have hrun : (Instr.storeAt ty (.pointer (some ⟨b, off, none⟩)) v).run P W = .ok () (W.setCells b off [v]) := by
    have := run_storeCells_cells (P := P) b off [v] 0 W (fun j hj => by
        have : j = 0 := by simpa using hj
        subst this
        simp [blk_cell hb, hfit]) (fun j hj => by rw [blk_frozen hb]) (fun u hu => by simp only [List.mem_cons, List.not_mem_nil, or_false] at hu; rw [hu]; exact h1)
    rw [Nat.add_zero] at this
    cases hq : P.info? ty with
    | none => simp [hq] at hi
    | some i =>
      have hs : i.size = 1 := by simpa [hq] using hi
      simp [Instr.storeAt, Instr.sureAddr, storeVar, sizeOf, typeInfo, hq, hv, hs, this, Result.andThen]
  refine wpL hg fun K hK => ?_
  unfold Oper.wp execOp
  simp only [ho, hx, hy, Sem.run_bind, Sem.run_pure, Result.andThen_ok, hrun]
  exact hK _ _ (h _ (by simpa using setCells_block [v] off W old hb (by simp; omega)) (setCells_keep _ _ _))
end
end Go.Proofs.Ytmacgmmjgdmleaa
namespace Go.Proofs.Ytmacgmmjgdmleaa
open Go Go.RowKit
set_option linter.unusedSimpArgs false
set_option linter.unusedVariables false
set_option maxRecDepth 100000

def VoteV.lits (v : VoteV) : List Lit := [.int .i64 v.kind, .int .i64 v.epoch, .int .i64 v.view, .int .i64 v.slot] ++ lits8 v.dig
def SignV.lits (s : SignV) : List Lit := [.int .i64 s.node] ++ lits8 s.tag
theorem keyLits_i (d : Nat) (x : Int) (hx : (Lit.int .i64 x).wf = true) : Try.prog.keyLits (d + 1) 3 [.int .i64 x] = some [.int .i64 x] := by
  unfold Program.keyLits
  rw [Try.underlying3]
  simp [hx]
theorem keyLits_vote (v : VoteV) (h : v.wf) : Try.prog.keyLits 3 30 v.cells = some v.lits := by
  obtain ⟨hd, h1, h2, h3, h4⟩ := h
  have htg : Try.prog.keyLits 2 28 (bv v.dig) = some (lits8 v.dig) := keyLits_bytes Try.underlying28 Try.underlying5 (by kernel_rfl) (by kernel_rfl) v.dig hd 0
  have k1 : Try.prog.cellsOf 3 = 1 := by kernel_rfl
  have k5 : Try.prog.cellsOf 28 = 32 := by kernel_rfl
  have k6 : Try.prog.cellsOf 30 = 36 := by kernel_rfl
  have hl : (bv v.dig).length = 32 := by rw [bv_length, hd]
  unfold Program.keyLits
  rw [Try.underlying30]
  simp [VoteV.cells, k1, k5, k6, keyLits_i _ _ h1, keyLits_i _ _ h2, keyLits_i _ _ h3, keyLits_i _ _ h4, hl, VoteV.lits, List.take_of_length_le, htg]
theorem keyLits_sign (s : SignV) (h : s.wf) : Try.prog.keyLits 3 219 s.cells = some s.lits := by
  obtain ⟨hd, h1⟩ := h
  have htg : Try.prog.keyLits 2 88 (bv s.tag) = some (lits8 s.tag) := keyLits_bytes Try.underlying88 Try.underlying5 (by kernel_rfl) (by kernel_rfl) s.tag hd 0
  have k1 : Try.prog.cellsOf 3 = 1 := by kernel_rfl
  have k5 : Try.prog.cellsOf 88 = 16 := by kernel_rfl
  have k6 : Try.prog.cellsOf 219 = 17 := by kernel_rfl
  have hl : (bv s.tag).length = 16 := by rw [bv_length, hd]
  unfold Program.keyLits
  rw [Try.underlying219]
  simp [SignV.cells, k1, k5, k6, keyLits_i _ _ h1, hl, SignV.lits, List.take_of_length_le, htg]
def VoteV.same (a b : VoteV) : Bool := decide (a.kind = b.kind) && (decide (a.epoch = b.epoch) && (decide (a.view = b.view) && (decide (a.slot = b.slot) && decide (a.dig = b.dig))))
theorem VoteV.same_iff (a b : VoteV) : VoteV.same a b = true ↔ a = b := by
  cases a
  cases b
  simp [VoteV.same]
def SignV.same (a b : SignV) : Bool := decide (a.node = b.node) && decide (a.tag = b.tag)
theorem SignV.same_iff (a b : SignV) : SignV.same a b = true ↔ a = b := by
  cases a
  cases b
  simp [SignV.same]
instance : DecidableEq SignV := fun a b => decidable_of_iff (SignV.same a b = true) (SignV.same_iff a b)
theorem VoteV.lits_inj (a b : VoteV) : a.lits = b.lits ↔ a = b := by
  constructor
  · intro h
    simp only [VoteV.lits, List.cons_append, List.nil_append, List.cons.injEq, Lit.int.injEq, true_and] at h
    obtain ⟨h1, h2, h3, h4, h5⟩ := h
    have h6 := lits8_inj.1 h5
    cases a
    cases b
    simp only at h1 h2 h3 h4 h6
    subst h1 h2 h3 h4 h6
    rfl
  · rintro rfl
    rfl
theorem SignV.lits_inj (a b : SignV) : a.lits = b.lits ↔ a = b := by
  constructor
  · intro h
    simp only [SignV.lits, List.cons_append, List.nil_append, List.cons.injEq, Lit.int.injEq, true_and] at h
    obtain ⟨h1, h5⟩ := h
    have h6 := lits8_inj.1 h5
    cases a
    cases b
    simp only at h1 h6
    subst h1 h6
    rfl
  · rintro rfl
    rfl
theorem vote_eql (a b : VoteV) (ha : a.wf) (hb : b.wf) (w : World) : (binOp .eql 30 (.agg a.cells.toArray) (.agg b.cells.toArray)).run Try.prog w = .ok (.bool (VoteV.same a b)) w := by
  have h4 : Try.prog.cellsOf 30 = 36 := by kernel_rfl
  obtain ⟨r, hr, hiff⟩ := equal_lits w (by decide : 3 ≤ 10000) (by kernel_rfl) (by rw [Try.underlying30]) a.cells b.cells _ _ 3 (keyLits_vote a ha) (keyLits_vote b hb) (by rw [h4, VoteV.len ha]) (by rw [h4, VoteV.len hb])
  rw [run_eql_struct, hr]
  have e : r = VoteV.same a b := by
    rw [Bool.eq_iff_iff, hiff, VoteV.lits_inj, VoteV.same_iff]
  rw [e]
  rfl
theorem vote_neq (a b : VoteV) (ha : a.wf) (hb : b.wf) (w : World) : (binOp .neq 30 (.agg a.cells.toArray) (.agg b.cells.toArray)).run Try.prog w = .ok (.bool (!VoteV.same a b)) w := by
  have h4 : Try.prog.cellsOf 30 = 36 := by kernel_rfl
  obtain ⟨r, hr, hiff⟩ := equal_lits w (by decide : 3 ≤ 10000) (by kernel_rfl) (by rw [Try.underlying30]) a.cells b.cells _ _ 3 (keyLits_vote a ha) (keyLits_vote b hb) (by rw [h4, VoteV.len ha]) (by rw [h4, VoteV.len hb])
  rw [run_neq_struct, hr]
  have e : r = VoteV.same a b := by
    rw [Bool.eq_iff_iff, hiff, VoteV.lits_inj, VoteV.same_iff]
  rw [e]
  rfl
theorem vote_guard (op : BinOp) (x y : Operand) (a b : Array Value) (w : World) : (eqGuard op 30 x y (.agg a) (.agg b)).run Try.prog w = .ok () w := run_eqGuard_agg w op _ x y a b (by kernel_rfl)
theorem sign_eql (a b : SignV) (ha : a.wf) (hb : b.wf) (w : World) : (binOp .eql 219 (.agg a.cells.toArray) (.agg b.cells.toArray)).run Try.prog w = .ok (.bool (SignV.same a b)) w := by
  have h4 : Try.prog.cellsOf 219 = 17 := by kernel_rfl
  obtain ⟨r, hr, hiff⟩ := equal_lits w (by decide : 3 ≤ 10000) (by kernel_rfl) (by rw [Try.underlying219]) a.cells b.cells _ _ 3 (keyLits_sign a ha) (keyLits_sign b hb) (by rw [h4, SignV.len ha]) (by rw [h4, SignV.len hb])
  rw [run_eql_struct, hr]
  have e : r = SignV.same a b := by
    rw [Bool.eq_iff_iff, hiff, SignV.lits_inj, SignV.same_iff]
  rw [e]
  rfl
theorem sign_neq (a b : SignV) (ha : a.wf) (hb : b.wf) (w : World) : (binOp .neq 219 (.agg a.cells.toArray) (.agg b.cells.toArray)).run Try.prog w = .ok (.bool (!SignV.same a b)) w := by
  have h4 : Try.prog.cellsOf 219 = 17 := by kernel_rfl
  obtain ⟨r, hr, hiff⟩ := equal_lits w (by decide : 3 ≤ 10000) (by kernel_rfl) (by rw [Try.underlying219]) a.cells b.cells _ _ 3 (keyLits_sign a ha) (keyLits_sign b hb) (by rw [h4, SignV.len ha]) (by rw [h4, SignV.len hb])
  rw [run_neq_struct, hr]
  have e : r = SignV.same a b := by
    rw [Bool.eq_iff_iff, hiff, SignV.lits_inj, SignV.same_iff]
  rw [e]
  rfl
theorem sign_guard (op : BinOp) (x y : Operand) (a b : Array Value) (w : World) : (eqGuard op 219 x y (.agg a) (.agg b)).run Try.prog w = .ok () w := run_eqGuard_agg w op _ x y a b (by kernel_rfl)
def CertV.same (a b : CertV) : Bool := VoteV.same a.vote b.vote && decide (a.signs = b.signs)
def slotSame (a b : SlotV) : Bool := decide (a.view = b.view) && (decide (a.is = b.is) && (decide (a.holds = b.holds) && (decide (a.decided = b.decided) && (batSame a.bat b.bat && ((batSame a.hbat b.hbat && CertV.same a.hcert b.hcert) && (decide (a.eslot = b.eslot) && (batSame a.ebat b.ebat && CertV.same a.ecert b.ecert)))))))
theorem batSame_self (b : BatV) : batSame b b = true := (batSame_iff b b).2 ⟨rfl, rfl⟩
theorem CertV.same_self (c : CertV) : CertV.same c c = true := by rw [CertV.same, (VoteV.same_iff _ _).2 rfl]; simp
theorem slotSame_self (s : SlotV) : slotSame s s = true := by simp [slotSame, batSame_self, CertV.same_self]
def signAt (l : List SignV) (i : Nat) : SignV := l.getD i ⟨0, []⟩
theorem signAt_mem {l : List SignV} {i : Nat} (h : i < l.length) : signAt l i ∈ l := by
  unfold signAt
  simp only [List.getD, List.getElem?_eq_getElem h, Option.getD_some]
  exact List.getElem_mem _
theorem signAt_get {l : List SignV} {i : Nat} (h : i < l.length) : l[i]? = some (signAt l i) := by
  unfold signAt
  simp only [List.getD, List.getElem?_eq_getElem h, Option.getD_some]
theorem sign_range {w : World} {ao : Option Addr} {c : Nat} {l : List SignV} (h : Sl w 17 ao l.length c (sv l)) (hw : ∀ s ∈ l, s.wf) {i : Nat} (hi : i < l.length) : ∃ bk off, ao = some ⟨bk, off, none⟩ ∧ w.rangeAt bk (off + i * 17) (signAt l i).cells := by
  have hne : sv l ≠ [] := by
    intro h2
    have := h.len
    rw [h2] at this
    simp at this
    omega
  obtain ⟨bk, off, ha, hb, hc⟩ := h.at hne
  refine ⟨bk, off, ha, ?_⟩
  intro j v hj
  rw [Nat.add_assoc]
  exact hc _ _ (flat_at' (f := SignV.cells) (sz := 17) l (fun r hr => SignV.len (hw r hr)) i _ (signAt_get hi) j v hj)
theorem take_sign_next {l m : List SignV} {k : Nat} (hl : k < l.length) (hm : k < m.length) (h : l.take k = m.take k) (he : signAt l k = signAt m k) : l.take (k + 1) = m.take (k + 1) := by
  rw [List.take_succ_eq_append_getElem hl, List.take_succ_eq_append_getElem hm, h]
  have h1 := signAt_get hl
  have h2 := signAt_get hm
  rw [List.getElem?_eq_getElem hl] at h1
  rw [List.getElem?_eq_getElem hm] at h2
  injection h1 with h1
  injection h2 with h2
  rw [h1, h2, he]
set_option maxRecDepth 100000 in
set_option maxHeartbeats 1600000 in
theorem rsignsSame_any (aa ab : Option Addr) (ca cb : Nat) (A B : List SignV) (w : World) (ha : Sl w 17 aa A.length ca (sv A)) (hwa : ∀ s ∈ A, s.wf) (hb : Sl w 17 ab B.length cb (sv B)) (hwb : ∀ s ∈ B, s.wf) :
    Calls Try.prog 147 #[.slice aa A.length ca, .slice ab B.length cb] w fun e w' => e = .returned (.bool (decide (A = B))) ∧ Same w w' := by
  have hcap := ha.cap
  have hmost := ha.most
  have hcapb := hb.cap
  unfold maxLen at hmost
  have hA := Lib.hid (And.intro ha hwa)
  have hB := Lib.hid (And.intro hb hwb)
  clear ha hb hwa hwb
  obtain ⟨R, hR⟩ : ∃ R, R = decide (A = B) := ⟨_, rfl⟩
  rw [← hR]
  obtain ⟨n, hn⟩ : ∃ n, n = A.length := ⟨_, rfl⟩
  obtain ⟨m, hm⟩ : ∃ m, m = B.length := ⟨_, rfl⟩
  rw [← hn] at hcap ⊢
  rw [← hm] at hcapb ⊢
  have hbad : A ≠ B → R = false := fun h => by rw [hR, decide_eq_false h]
  have hgood : A = B → R = true := fun h => by rw [hR, decide_eq_true h]
  clear hR
  replace hn := Lib.hid hn
  replace hm := Lib.hid hm
  replace hbad := Lib.hid hbad
  replace hgood := Lib.hid hgood
  by_cases hnm : n = m
  · subst hnm
    have hnn : ((n : Int) != (n : Int)) = false := by simp
    go_enter Try.func147, Try.ntmps147
    go_wp2
    go_loopw [5] (fun i wr => ∃ k : Nat, k ≤ n ∧ i = .int .i64 k ∧ A.take k = B.take k ∧ Same w wr) (fun i _ => n - (intOf i).toNat)
    case atStart => exact ⟨0, by omega, rfl, rfl, Same.refl⟩
    case round =>
      obtain ⟨k, hk, rfl, htk, hs⟩ := hrel
      by_cases hlt : k < n
      · obtain ⟨bk, off, hao, hrange⟩ := sign_range hA.out.1 hA.out.2 (i := k) (by rw [← hn.out]; exact hlt)
        obtain ⟨bk2, off2, hao2, hrange2⟩ := sign_range hB.out.1 hB.out.2 (i := k) (by rw [← hm.out]; exact hlt)
        have hra := (hs).range hrange
        have hrb := (hs).range hrange2
        have hwa := hA.out.2 _ (signAt_mem (i := k) (by rw [← hn.out]; exact hlt))
        have hwb := hB.out.2 _ (signAt_mem (i := k) (by rw [← hm.out]; exact hlt))
        have hnx := take_sign_next (k := k) (by rw [← hn.out]; exact hlt) (by rw [← hm.out]; exact hlt) htk
        have hne : signAt A k ≠ signAt B k → A ≠ B := fun h1 h2 => h1 (by rw [h2])
        obtain ⟨X, hX⟩ : ∃ X, X = signAt A k := ⟨_, rfl⟩
        obtain ⟨Y, hY⟩ : ∃ Y, Y = signAt B k := ⟨_, rfl⟩
        rw [← hX] at hra hwa hnx hne
        rw [← hY] at hrb hwb hnx hne
        have heq := fun w => sign_neq X Y hwa hwb w
        have hgd := sign_guard
        have hinfX := Lib.hid (sign_infoL hwa)
        have hinfY := Lib.hid (sign_infoL hwb)
        have hsame := SignV.same_iff X Y
        obtain ⟨t, ht⟩ : ∃ t, t = SignV.same X Y := ⟨_, rfl⟩
        rw [← ht] at heq hsame
        have q0 : 0 ≤ (k : Int) := by omega
        have q1 : (k : Int) < (n : Int) := by omega
        clear hrange hrange2 hX hY ht htk hwa hwb
        replace hra := Lib.hid hra
        replace hrb := Lib.hid hrb
        replace hnx := Lib.hid hnx
        replace hne := Lib.hid hne
        replace hsame := Lib.hid hsame
        replace heq := Lib.hid heq
        replace hgd := Lib.hid hgd
        replace hs := Lib.hid hs
        clear hA hB
        subst hao
        subst hao2
        go_upto_region 6 with fail
        go_cut [25] (fun v wx => v = .bool (!t) ∧ Same wr wx)
        case first =>
          refine wp_region_facts (by kernel_rfl) [(17, 0), (18, 1), (19, 2), (20, 3), (21, 4), (22, 5), (23, 6), (24, 7), (25, 8)] Same (Same _) [isV (.slice (some ⟨bk, off, none⟩) n ca), isV (.int .i64 (k : Int)), isV (.pointer (some ⟨bk, off + k * 17, none⟩)), isV (.agg X.cells.toArray), isV (.slice (some ⟨bk2, off2, none⟩) n cb), isV (.int .i64 (k : Int)), isV (.pointer (some ⟨bk2, off2 + k * 17, none⟩)), isV (.agg Y.cells.toArray), isV (.bool (!t))] Same.refl.drew (fun _ _ h k => h.trans k) (by simp [isV_stable, isB_stable, isAny_stable]) (by decide) (by decide) ?_ ?_
          · refine ⟨?_, ?_, ?_, ?_, ?_, ?_, ?_, ?_, ?_, trivial⟩
            all_goals (intro u wx hI hp; simp only [mkAct, List.foldl_cons, List.foldl_nil, List.setIfInBounds_toArray, List.set_cons_succ, List.set_cons_zero])
            · -- operation 0
              go_wp2
              refine stq_v rfl Same.refl ?_
              first | (simp only [mkAct, List.foldl_cons, List.foldl_nil, List.setIfInBounds_toArray, List.set_cons_succ, List.set_cons_zero, upd, reduceIte, Nat.reduceEqDiff, Nat.reduceAdd, str]; done) | (simp [mkAct, upd, str, *]; done)
            · -- operation 1
              go_wp2
              refine stq_v rfl Same.refl ?_
              first | (simp only [mkAct, List.foldl_cons, List.foldl_nil, List.setIfInBounds_toArray, List.set_cons_succ, List.set_cons_zero, upd, reduceIte, Nat.reduceEqDiff, Nat.reduceAdd, str]; done) | (simp [mkAct, upd, str, *]; done)
            · -- operation 2
              obtain ⟨f0, f1, -⟩ := hp
              replace f0 : u 0 = (.slice (some ⟨bk, off, none⟩) n ca) := f0
              replace f1 : u 1 = (.int .i64 (k : Int)) := f1
              try simp only [f0, f1, str]
              go_wp2
              refine stq_v rfl Same.refl ?_
              first | (simp only [mkAct, List.foldl_cons, List.foldl_nil, List.setIfInBounds_toArray, List.set_cons_succ, List.set_cons_zero, upd, reduceIte, Nat.reduceEqDiff, Nat.reduceAdd, f0, f1, str]; done) | (simp [mkAct, upd, f0, f1, str, *]; done)
            · -- operation 3
              obtain ⟨f2, -⟩ := hp
              replace f2 : u 2 = (.pointer (some ⟨bk, off + k * 17, none⟩)) := f2
              try simp only [f2, str]
              go_wp2_with (refine load_mid rfl _ _ rfl bk (off + k * 17) rfl X.cells _ (hI.range hra.out) Try.underlying219 rfl hinfX.out ?_)
              refine stq_v rfl Same.refl ?_
              first | (simp only [mkAct, List.foldl_cons, List.foldl_nil, List.setIfInBounds_toArray, List.set_cons_succ, List.set_cons_zero, upd, reduceIte, Nat.reduceEqDiff, Nat.reduceAdd, f2, str]; done) | (simp [mkAct, upd, f2, str, *]; done)
            · -- operation 4
              go_wp2
              refine stq_v rfl Same.refl ?_
              first | (simp only [mkAct, List.foldl_cons, List.foldl_nil, List.setIfInBounds_toArray, List.set_cons_succ, List.set_cons_zero, upd, reduceIte, Nat.reduceEqDiff, Nat.reduceAdd, str]; done) | (simp [mkAct, upd, str, *]; done)
            · -- operation 5
              go_wp2
              refine stq_v rfl Same.refl ?_
              first | (simp only [mkAct, List.foldl_cons, List.foldl_nil, List.setIfInBounds_toArray, List.set_cons_succ, List.set_cons_zero, upd, reduceIte, Nat.reduceEqDiff, Nat.reduceAdd, str]; done) | (simp [mkAct, upd, str, *]; done)
            · -- operation 6
              obtain ⟨f4, f5, -⟩ := hp
              replace f4 : u 4 = (.slice (some ⟨bk2, off2, none⟩) n cb) := f4
              replace f5 : u 5 = (.int .i64 (k : Int)) := f5
              try simp only [f4, f5, str]
              go_wp2
              refine stq_v rfl Same.refl ?_
              first | (simp only [mkAct, List.foldl_cons, List.foldl_nil, List.setIfInBounds_toArray, List.set_cons_succ, List.set_cons_zero, upd, reduceIte, Nat.reduceEqDiff, Nat.reduceAdd, f4, f5, str]; done) | (simp [mkAct, upd, f4, f5, str, *]; done)
            · -- operation 7
              obtain ⟨f6, -⟩ := hp
              replace f6 : u 6 = (.pointer (some ⟨bk2, off2 + k * 17, none⟩)) := f6
              try simp only [f6, str]
              go_wp2_with (refine load_mid rfl _ _ rfl bk2 (off2 + k * 17) rfl Y.cells _ (hI.range hrb.out) Try.underlying219 rfl hinfY.out ?_)
              refine stq_v rfl Same.refl ?_
              first | (simp only [mkAct, List.foldl_cons, List.foldl_nil, List.setIfInBounds_toArray, List.set_cons_succ, List.set_cons_zero, upd, reduceIte, Nat.reduceEqDiff, Nat.reduceAdd, f6, str]; done) | (simp [mkAct, upd, f6, str, *]; done)
            · -- operation 8
              obtain ⟨f3, f7, -⟩ := hp
              replace f3 : u 3 = (.agg X.cells.toArray) := f3
              replace f7 : u 7 = (.agg Y.cells.toArray) := f7
              try simp only [f3, f7, str]
              have heq := heq.out
              have hgd := hgd.out
              go_wp2
              refine stq_v rfl Same.refl ?_
              first | (simp only [mkAct, List.foldl_cons, List.foldl_nil, List.setIfInBounds_toArray, List.set_cons_succ, List.set_cons_zero, upd, reduceIte, Nat.reduceEqDiff, Nat.reduceAdd, f3, f7, str]; done) | (simp [mkAct, upd, f3, f7, str, *]; done)
          · intro u wx hI hR
            obtain ⟨r0, r1, r2, r3, r4, r5, r6, r7, r8, -⟩ := hR
            replace r0 : u 0 = (.slice (some ⟨bk, off, none⟩) n ca) := r0
            replace r1 : u 1 = (.int .i64 (k : Int)) := r1
            replace r2 : u 2 = (.pointer (some ⟨bk, off + k * 17, none⟩)) := r2
            replace r3 : u 3 = (.agg X.cells.toArray) := r3
            replace r4 : u 4 = (.slice (some ⟨bk2, off2, none⟩) n cb) := r4
            replace r5 : u 5 = (.int .i64 (k : Int)) := r5
            replace r6 : u 6 = (.pointer (some ⟨bk2, off2 + k * 17, none⟩)) := r6
            replace r7 : u 7 = (.agg Y.cells.toArray) := r7
            replace r8 : u 8 = (.bool (!t)) := r8
            simp only [mkAct, List.foldl_cons, List.foldl_nil, List.setIfInBounds_toArray, List.set_cons_succ, List.set_cons_zero]
            try simp only [str, r0, r1, r2, r3, r4, r5, r6, r7, r8]
            go_wp2
            go_meet
            exact ⟨rfl, hI⟩
        case rest =>
          obtain ⟨rfl, hs3⟩ := hcut
          cases ht : t
          · have hR2 := hbad.out (hne.out (fun h => by have := hsame.out.2 h; rw [ht] at this; cases this))
            clear hsame heq
            replace hR2 := Lib.hid hR2
            go_wp2
            go_ret
            exact ⟨by rw [hR2.out]; rfl, hs.out.trans hs3⟩
          · have hnx2 := hnx.out (hsame.out.1 ht)
            clear hsame heq
            replace hnx2 := Lib.hid hnx2
            go_wp2
            go_roundw
            case rel => exact ⟨k + 1, by omega, by go_num, hnx2.out, hs.out.trans hs3⟩
            case measure => simp [intOf]; omega
      · obtain rfl : k = n := by omega
        have hall : A = B := by
          rw [List.take_of_length_le (by rw [← hn.out]; exact Nat.le_refl _), List.take_of_length_le (by rw [← hm.out]; exact Nat.le_refl _)] at htk
          exact htk
        have hR2 := hgood.out hall
        clear htk hall
        replace hs := Lib.hid hs
        replace hR2 := Lib.hid hR2
        go_wp2
        go_ret
        exact ⟨by rw [hR2.out]; rfl, hs.out⟩
  · have hR2 := hbad.out (fun h => hnm (by rw [hn.out, hm.out, h]))
    have hnn : ((n : Int) != (m : Int)) = true := by simp; omega
    clear hnm
    replace hR2 := Lib.hid hR2
    go_enter Try.func147, Try.ntmps147
    go_wp2
    go_ret
    exact ⟨by rw [hR2.out]; rfl, Same.refl⟩
set_option maxRecDepth 100000 in
set_option maxHeartbeats 1600000 in
theorem rcertSame_any (a b : CertV) (w : World) (ha : a.at w) (hb : b.at w) :
    Calls Try.prog 92 #[.agg a.cells.toArray, .agg b.cells.toArray] w fun e w' => e = .returned (.bool (CertV.same a b)) ∧ Same w w' := by
  have hA := Lib.hid ha
  have hB := Lib.hid hb
  have hinfA := Lib.hid (cert_info ha.1)
  have hinfB := Lib.hid (cert_info hb.1)
  have hinfvA := Lib.hid (vote_infoL ha.1)
  have hinfvB := Lib.hid (vote_infoL hb.1)
  have hveq := fun w => vote_eql a.vote b.vote ha.1 hb.1 w
  have hvgd := vote_guard
  obtain ⟨v, hv⟩ : ∃ v, v = VoteV.same a.vote b.vote := ⟨_, rfl⟩
  rw [← hv] at hveq
  unfold CertV.same
  rw [← hv]
  clear hv
  replace hveq := Lib.hid hveq
  replace hvgd := Lib.hid hvgd
  have hL := Lib.hid (fun w h1 h2 h3 h4 => rsignsSame_any a.so b.so a.sc b.sc a.signs b.signs w h1 h2 h3 h4)
  cases v
  · go_enter Try.func92, Try.ntmps92
    go_upto_region 1 with (first | (refine box_row rfl _ _ rfl a.cells.toArray rfl hinfA.out ?_; intro w0 hbx hs0; have hbxl := blk_lt hbx; replace hbx := Lib.hid hbx; replace hs0 := Lib.hid hs0) | (refine box_row rfl _ _ rfl b.cells.toArray rfl hinfB.out ?_; intro w1 hby hs1; replace hby := Lib.hid hby; replace hs1 := Lib.hid hs1))
    have hbx1 := hs1.out.at hbx.out
    have c1 := ce_signs hbx1 hA.out.1
    have d1 := ce_signs hby.out hB.out.1
    have ca := Lib.hid (ce_vote hbx1)
    have cb := Lib.hid (ce_vote hby.out)
    have hw1 := Lib.hid (hs0.out.trans hs1.out)
    clear hbx hby hs0 hs1 hbx1
    have hveq := hveq.out
    have hvgd := hvgd.out
    go_wp2_with (first | (refine load_mid rfl _ _ rfl w.heap.size 0 rfl a.vote.cells _ ca.out Try.underlying30 rfl hinfvA.out ?_) | (refine load_mid rfl _ _ rfl w0.heap.size 0 rfl b.vote.cells _ cb.out Try.underlying30 rfl hinfvB.out ?_))
    go_ret
    exact ⟨rfl, hw1.out⟩
  · go_enter Try.func92, Try.ntmps92
    go_upto_region 1 with (first | (refine box_row rfl _ _ rfl a.cells.toArray rfl hinfA.out ?_; intro w0 hbx hs0; have hbxl := blk_lt hbx; replace hbx := Lib.hid hbx; replace hs0 := Lib.hid hs0) | (refine box_row rfl _ _ rfl b.cells.toArray rfl hinfB.out ?_; intro w1 hby hs1; replace hby := Lib.hid hby; replace hs1 := Lib.hid hs1))
    have hbx1 := hs1.out.at hbx.out
    have c1 := ce_signs hbx1 hA.out.1
    have d1 := ce_signs hby.out hB.out.1
    have ca := Lib.hid (ce_vote hbx1)
    have cb := Lib.hid (ce_vote hby.out)
    have hw1 := Lib.hid (hs0.out.trans hs1.out)
    clear hbx hby hs0 hs1 hbx1
    have hveq := hveq.out
    have hvgd := hvgd.out
    go_wp2_with (first | (refine load_mid rfl _ _ rfl w.heap.size 0 rfl a.vote.cells _ ca.out Try.underlying30 rfl hinfvA.out ?_) | (refine load_mid rfl _ _ rfl w0.heap.size 0 rfl b.vote.cells _ cb.out Try.underlying30 rfl hinfvB.out ?_))
    refine (hL.out _ (CertV.same' hA.out hw1.out).2.1 hA.out.2.2 (CertV.same' hB.out hw1.out).2.1 hB.out.2.2).mono ?_
    rintro e w2 ⟨rfl, hs2⟩
    have hw2 := Lib.hid (hw1.out.trans hs2)
    clear hs2 hveq
    go_wp2
    go_ret
    exact ⟨rfl, hw2.out⟩
set_option maxRecDepth 100000 in
set_option maxHeartbeats 1600000 in
theorem certSame_any (a b : CertV) (w : World) (ha : a.at w) (hb : b.at w) :
    Calls Try.prog 96 #[.agg a.cells.toArray, .agg b.cells.toArray] w fun e w' => e = .returned (.bool (CertV.same a b)) ∧ Same w w' := by
  have hcap := ha.2.1.cap
  have hmost := ha.2.1.most
  have hcapb := hb.2.1.cap
  unfold maxLen at hmost
  have hA := Lib.hid ha
  have hB := Lib.hid hb
  have hinfA := Lib.hid (cert_info ha.1)
  have hinfB := Lib.hid (cert_info hb.1)
  have hinfvA := Lib.hid (vote_infoL ha.1)
  have hinfvB := Lib.hid (vote_infoL hb.1)
  have hveq := fun w => vote_neq a.vote b.vote ha.1 hb.1 w
  have hvgd := vote_guard
  obtain ⟨v, hv⟩ : ∃ v, v = VoteV.same a.vote b.vote := ⟨_, rfl⟩
  rw [← hv] at hveq
  unfold CertV.same
  rw [← hv]
  clear hv
  replace hveq := Lib.hid hveq
  replace hvgd := Lib.hid hvgd
  obtain ⟨A, hAe⟩ : ∃ A, A = a.signs := ⟨_, rfl⟩
  obtain ⟨B, hBe⟩ : ∃ B, B = b.signs := ⟨_, rfl⟩
  have hSA : Sl w 17 a.so A.length a.sc (sv A) ∧ ∀ s ∈ A, s.wf := by rw [hAe]; exact hA.out.2
  have hSB : Sl w 17 b.so B.length b.sc (sv B) ∧ ∀ s ∈ B, s.wf := by rw [hBe]; exact hB.out.2
  rw [← hAe] at hcap ⊢
  rw [← hBe] at hcapb ⊢
  replace hSA := Lib.hid hSA
  replace hSB := Lib.hid hSB
  obtain ⟨n, hn⟩ : ∃ n, n = A.length := ⟨_, rfl⟩
  obtain ⟨m, hm⟩ : ∃ m, m = B.length := ⟨_, rfl⟩
  rw [← hn] at hcap
  rw [← hm] at hcapb
  obtain ⟨R, hR⟩ : ∃ R, R = decide (A = B) := ⟨_, rfl⟩
  rw [← hR]
  have hbad : A ≠ B → R = false := fun h => by rw [hR, decide_eq_false h]
  have hgood : A = B → R = true := fun h => by rw [hR, decide_eq_true h]
  clear hR
  replace hn := Lib.hid hn
  replace hm := Lib.hid hm
  replace hAe := Lib.hid hAe
  replace hBe := Lib.hid hBe
  replace hbad := Lib.hid hbad
  replace hgood := Lib.hid hgood
  cases v
  · go_enter Try.func96, Try.ntmps96
    go_upto_region 1 with (first | (refine box_row rfl _ _ rfl a.cells.toArray rfl hinfA.out ?_; intro w0 hbx hs0; have hbxl := blk_lt hbx; replace hbx := Lib.hid hbx; replace hs0 := Lib.hid hs0) | (refine box_row rfl _ _ rfl b.cells.toArray rfl hinfB.out ?_; intro w1 hby hs1; replace hby := Lib.hid hby; replace hs1 := Lib.hid hs1))
    have hbx1 := hs1.out.at hbx.out
    have c1 := ce_signs hbx1 hA.out.1
    have d1 := ce_signs hby.out hB.out.1
    have ca := Lib.hid (ce_vote hbx1)
    have cb := Lib.hid (ce_vote hby.out)
    have hw1 := Lib.hid (hs0.out.trans hs1.out)
    clear hbx hby hs0 hs1 hbx1
    rw [← hAe.out, ← hn.out] at c1
    rw [← hBe.out, ← hm.out] at d1
    have hveq := hveq.out
    have hvgd := hvgd.out
    go_wp2_with (first | (refine load_mid rfl _ _ rfl w.heap.size 0 rfl a.vote.cells _ ca.out Try.underlying30 rfl hinfvA.out ?_) | (refine load_mid rfl _ _ rfl w0.heap.size 0 rfl b.vote.cells _ cb.out Try.underlying30 rfl hinfvB.out ?_))
    go_ret
    exact ⟨rfl, hw1.out⟩
  · by_cases hnm : n = m
    · subst hnm
      have hnn : ((n : Int) != (n : Int)) = false := by simp
      go_enter Try.func96, Try.ntmps96
      go_upto_region 1 with (first | (refine box_row rfl _ _ rfl a.cells.toArray rfl hinfA.out ?_; intro w0 hbx hs0; have hbxl := blk_lt hbx; replace hbx := Lib.hid hbx; replace hs0 := Lib.hid hs0) | (refine box_row rfl _ _ rfl b.cells.toArray rfl hinfB.out ?_; intro w1 hby hs1; replace hby := Lib.hid hby; replace hs1 := Lib.hid hs1))
      have hbx1 := hs1.out.at hbx.out
      have c1 := ce_signs hbx1 hA.out.1
      have d1 := ce_signs hby.out hB.out.1
      have ca := Lib.hid (ce_vote hbx1)
      have cb := Lib.hid (ce_vote hby.out)
      have hw1 := Lib.hid (hs0.out.trans hs1.out)
      clear hbx hby hs0 hs1 hbx1
      rw [← hAe.out, ← hn.out] at c1
      rw [← hBe.out, ← hm.out] at d1
      have hveq' := hveq.out
      have hvgd' := hvgd.out
      go_wp2_with (first | (refine load_mid rfl _ _ rfl w.heap.size 0 rfl a.vote.cells _ ca.out Try.underlying30 rfl hinfvA.out ?_) | (refine load_mid rfl _ _ rfl w0.heap.size 0 rfl b.vote.cells _ cb.out Try.underlying30 rfl hinfvB.out ?_))
      clear hveq hvgd hveq' hvgd' ca cb
      replace c1 := Lib.hid c1
      replace d1 := Lib.hid d1
      go_loopw [23] (fun i wr => ∃ k : Nat, k ≤ n ∧ i = .int .i64 k ∧ A.take k = B.take k ∧ Same w1 wr) (fun i _ => n - (intOf i).toNat)
      case atStart => exact ⟨0, by omega, rfl, rfl, Same.refl⟩
      case round =>
        obtain ⟨k, hk, rfl, htk, hs⟩ := hrel
        by_cases hlt : k < n
        · obtain ⟨bk, off, hao, hrange⟩ := sign_range hSA.out.1 hSA.out.2 (i := k) (by rw [← hn.out]; exact hlt)
          obtain ⟨bk2, off2, hao2, hrange2⟩ := sign_range hSB.out.1 hSB.out.2 (i := k) (by rw [← hm.out]; exact hlt)
          have hra := (hw1.out.trans hs).range hrange
          have hrb := (hw1.out.trans hs).range hrange2
          have hwa := hSA.out.2 _ (signAt_mem (i := k) (by rw [← hn.out]; exact hlt))
          have hwb := hSB.out.2 _ (signAt_mem (i := k) (by rw [← hm.out]; exact hlt))
          have hnx := take_sign_next (k := k) (by rw [← hn.out]; exact hlt) (by rw [← hm.out]; exact hlt) htk
          have hne : signAt A k ≠ signAt B k → A ≠ B := fun h1 h2 => h1 (by rw [h2])
          obtain ⟨X, hX⟩ : ∃ X, X = signAt A k := ⟨_, rfl⟩
          obtain ⟨Y, hY⟩ : ∃ Y, Y = signAt B k := ⟨_, rfl⟩
          rw [← hX] at hra hwa hnx hne
          rw [← hY] at hrb hwb hnx hne
          have heq := fun w => sign_neq X Y hwa hwb w
          have hgd := sign_guard
          have hinfX := Lib.hid (sign_infoL hwa)
          have hinfY := Lib.hid (sign_infoL hwb)
          have hsame := SignV.same_iff X Y
          obtain ⟨t, ht⟩ : ∃ t, t = SignV.same X Y := ⟨_, rfl⟩
          rw [← ht] at heq hsame
          have q0 : 0 ≤ (k : Int) := by omega
          have q1 : (k : Int) < (n : Int) := by omega
          clear hrange hrange2 hX hY ht htk hwa hwb
          replace hra := Lib.hid hra
          replace hrb := Lib.hid hrb
          replace hnx := Lib.hid hnx
          replace hne := Lib.hid hne
          replace hsame := Lib.hid hsame
          replace heq := Lib.hid heq
          replace hgd := Lib.hid hgd
          have c1r := Lib.hid (hs.cell c1.out)
          have d1r := Lib.hid (hs.cell d1.out)
          rw [hao] at c1r
          rw [hao2] at d1r
          clear hao hao2
          replace hs := Lib.hid hs
          go_upto_region 6 with fail
          go_cut [36] (fun v wx => v = .bool (!t) ∧ Same wr wx)
          case first =>
            refine wp_region_facts (by kernel_rfl) [(26, 0), (27, 1), (28, 2), (29, 3), (30, 4), (31, 5), (32, 6), (33, 7), (34, 8), (35, 9), (36, 10)] Same (Same _) [isV (.pointer (some ⟨w.heap.size, 36, none⟩)), isV (.slice (some ⟨bk, off, none⟩) n a.sc), isV (.int .i64 (k : Int)), isV (.pointer (some ⟨bk, off + k * 17, none⟩)), isV (.agg X.cells.toArray), isV (.pointer (some ⟨w0.heap.size, 36, none⟩)), isV (.slice (some ⟨bk2, off2, none⟩) n b.sc), isV (.int .i64 (k : Int)), isV (.pointer (some ⟨bk2, off2 + k * 17, none⟩)), isV (.agg Y.cells.toArray), isV (.bool (!t))] Same.refl.drew (fun _ _ h k => h.trans k) (by simp [isV_stable, isB_stable, isAny_stable]) (by decide) (by decide) ?_ ?_
            · refine ⟨?_, ?_, ?_, ?_, ?_, ?_, ?_, ?_, ?_, ?_, ?_, trivial⟩
              all_goals (intro u wx hI hp; simp only [mkAct, List.foldl_cons, List.foldl_nil, List.setIfInBounds_toArray, List.set_cons_succ, List.set_cons_zero])
              · -- operation 0
                go_wp2
                refine stq_v rfl Same.refl ?_
                first | (simp only [mkAct, List.foldl_cons, List.foldl_nil, List.setIfInBounds_toArray, List.set_cons_succ, List.set_cons_zero, upd, reduceIte, Nat.reduceEqDiff, Nat.reduceAdd, str]; done) | (simp [mkAct, upd, str, *]; done)
              · -- operation 1
                obtain ⟨f0, -⟩ := hp
                replace f0 : u 0 = (.pointer (some ⟨w.heap.size, 36, none⟩)) := f0
                try simp only [f0, str]
                have cx := hI.cell (c1r.out)
                go_wp2
                refine stq_v rfl Same.refl ?_
                first | (simp only [mkAct, List.foldl_cons, List.foldl_nil, List.setIfInBounds_toArray, List.set_cons_succ, List.set_cons_zero, upd, reduceIte, Nat.reduceEqDiff, Nat.reduceAdd, f0, str]; done) | (simp [mkAct, upd, f0, str, *]; done)
              · -- operation 2
                go_wp2
                refine stq_v rfl Same.refl ?_
                first | (simp only [mkAct, List.foldl_cons, List.foldl_nil, List.setIfInBounds_toArray, List.set_cons_succ, List.set_cons_zero, upd, reduceIte, Nat.reduceEqDiff, Nat.reduceAdd, str]; done) | (simp [mkAct, upd, str, *]; done)
              · -- operation 3
                obtain ⟨f1, f2, -⟩ := hp
                replace f1 : u 1 = (.slice (some ⟨bk, off, none⟩) n a.sc) := f1
                replace f2 : u 2 = (.int .i64 (k : Int)) := f2
                try simp only [f1, f2, str]
                go_wp2
                refine stq_v rfl Same.refl ?_
                first | (simp only [mkAct, List.foldl_cons, List.foldl_nil, List.setIfInBounds_toArray, List.set_cons_succ, List.set_cons_zero, upd, reduceIte, Nat.reduceEqDiff, Nat.reduceAdd, f1, f2, str]; done) | (simp [mkAct, upd, f1, f2, str, *]; done)
              · -- operation 4
                obtain ⟨f3, -⟩ := hp
                replace f3 : u 3 = (.pointer (some ⟨bk, off + k * 17, none⟩)) := f3
                try simp only [f3, str]
                go_wp2_with (refine load_mid rfl _ _ rfl bk (off + k * 17) rfl X.cells _ (hI.range hra.out) Try.underlying219 rfl hinfX.out ?_)
                refine stq_v rfl Same.refl ?_
                first | (simp only [mkAct, List.foldl_cons, List.foldl_nil, List.setIfInBounds_toArray, List.set_cons_succ, List.set_cons_zero, upd, reduceIte, Nat.reduceEqDiff, Nat.reduceAdd, f3, str]; done) | (simp [mkAct, upd, f3, str, *]; done)
              · -- operation 5
                go_wp2
                refine stq_v rfl Same.refl ?_
                first | (simp only [mkAct, List.foldl_cons, List.foldl_nil, List.setIfInBounds_toArray, List.set_cons_succ, List.set_cons_zero, upd, reduceIte, Nat.reduceEqDiff, Nat.reduceAdd, str]; done) | (simp [mkAct, upd, str, *]; done)
              · -- operation 6
                obtain ⟨f5, -⟩ := hp
                replace f5 : u 5 = (.pointer (some ⟨w0.heap.size, 36, none⟩)) := f5
                try simp only [f5, str]
                have cx := hI.cell (d1r.out)
                go_wp2
                refine stq_v rfl Same.refl ?_
                first | (simp only [mkAct, List.foldl_cons, List.foldl_nil, List.setIfInBounds_toArray, List.set_cons_succ, List.set_cons_zero, upd, reduceIte, Nat.reduceEqDiff, Nat.reduceAdd, f5, str]; done) | (simp [mkAct, upd, f5, str, *]; done)
              · -- operation 7
                go_wp2
                refine stq_v rfl Same.refl ?_
                first | (simp only [mkAct, List.foldl_cons, List.foldl_nil, List.setIfInBounds_toArray, List.set_cons_succ, List.set_cons_zero, upd, reduceIte, Nat.reduceEqDiff, Nat.reduceAdd, str]; done) | (simp [mkAct, upd, str, *]; done)
              · -- operation 8
                obtain ⟨f6, f7, -⟩ := hp
                replace f6 : u 6 = (.slice (some ⟨bk2, off2, none⟩) n b.sc) := f6
                replace f7 : u 7 = (.int .i64 (k : Int)) := f7
                try simp only [f6, f7, str]
                go_wp2
                refine stq_v rfl Same.refl ?_
                first | (simp only [mkAct, List.foldl_cons, List.foldl_nil, List.setIfInBounds_toArray, List.set_cons_succ, List.set_cons_zero, upd, reduceIte, Nat.reduceEqDiff, Nat.reduceAdd, f6, f7, str]; done) | (simp [mkAct, upd, f6, f7, str, *]; done)
              · -- operation 9
                obtain ⟨f8, -⟩ := hp
                replace f8 : u 8 = (.pointer (some ⟨bk2, off2 + k * 17, none⟩)) := f8
                try simp only [f8, str]
                go_wp2_with (refine load_mid rfl _ _ rfl bk2 (off2 + k * 17) rfl Y.cells _ (hI.range hrb.out) Try.underlying219 rfl hinfY.out ?_)
                refine stq_v rfl Same.refl ?_
                first | (simp only [mkAct, List.foldl_cons, List.foldl_nil, List.setIfInBounds_toArray, List.set_cons_succ, List.set_cons_zero, upd, reduceIte, Nat.reduceEqDiff, Nat.reduceAdd, f8, str]; done) | (simp [mkAct, upd, f8, str, *]; done)
              · -- operation 10
                obtain ⟨f4, f9, -⟩ := hp
                replace f4 : u 4 = (.agg X.cells.toArray) := f4
                replace f9 : u 9 = (.agg Y.cells.toArray) := f9
                try simp only [f4, f9, str]
                have heq := heq.out
                have hgd := hgd.out
                go_wp2
                refine stq_v rfl Same.refl ?_
                first | (simp only [mkAct, List.foldl_cons, List.foldl_nil, List.setIfInBounds_toArray, List.set_cons_succ, List.set_cons_zero, upd, reduceIte, Nat.reduceEqDiff, Nat.reduceAdd, f4, f9, str]; done) | (simp [mkAct, upd, f4, f9, str, *]; done)
            · intro u wx hI hR
              obtain ⟨r0, r1, r2, r3, r4, r5, r6, r7, r8, r9, r10, -⟩ := hR
              replace r0 : u 0 = (.pointer (some ⟨w.heap.size, 36, none⟩)) := r0
              replace r1 : u 1 = (.slice (some ⟨bk, off, none⟩) n a.sc) := r1
              replace r2 : u 2 = (.int .i64 (k : Int)) := r2
              replace r3 : u 3 = (.pointer (some ⟨bk, off + k * 17, none⟩)) := r3
              replace r4 : u 4 = (.agg X.cells.toArray) := r4
              replace r5 : u 5 = (.pointer (some ⟨w0.heap.size, 36, none⟩)) := r5
              replace r6 : u 6 = (.slice (some ⟨bk2, off2, none⟩) n b.sc) := r6
              replace r7 : u 7 = (.int .i64 (k : Int)) := r7
              replace r8 : u 8 = (.pointer (some ⟨bk2, off2 + k * 17, none⟩)) := r8
              replace r9 : u 9 = (.agg Y.cells.toArray) := r9
              replace r10 : u 10 = (.bool (!t)) := r10
              simp only [mkAct, List.foldl_cons, List.foldl_nil, List.setIfInBounds_toArray, List.set_cons_succ, List.set_cons_zero]
              try simp only [str, r0, r1, r2, r3, r4, r5, r6, r7, r8, r9, r10]
              go_wp2
              go_meet
              exact ⟨rfl, hI⟩
          case rest =>
            obtain ⟨rfl, hs3⟩ := hcut
            cases ht : t
            · have hR2 := hbad.out (hne.out (fun h => by have := hsame.out.2 h; rw [ht] at this; cases this))
              clear hsame heq
              replace hR2 := Lib.hid hR2
              go_wp2
              go_ret
              exact ⟨by rw [hR2.out]; rfl, hw1.out.trans (hs.out.trans hs3)⟩
            · have hnx2 := hnx.out (hsame.out.1 ht)
              clear hsame heq
              replace hnx2 := Lib.hid hnx2
              go_wp2
              go_roundw
              case rel => exact ⟨k + 1, by omega, by go_num, hnx2.out, hs.out.trans hs3⟩
              case measure => simp [intOf]; omega
        · obtain rfl : k = n := by omega
          have hall : A = B := by
            rw [List.take_of_length_le (by rw [← hn.out]; exact Nat.le_refl _), List.take_of_length_le (by rw [← hm.out]; exact Nat.le_refl _)] at htk
            exact htk
          have hR2 := hgood.out hall
          clear htk hall
          replace hs := Lib.hid hs
          replace hR2 := Lib.hid hR2
          go_wp2
          go_ret
          exact ⟨by rw [hR2.out]; rfl, hw1.out.trans hs.out⟩
    · have hR2 := hbad.out (fun h => hnm (by rw [hn.out, hm.out, h]))
      have hnn : ((n : Int) != (m : Int)) = true := by simp; omega
      clear hnm
      replace hR2 := Lib.hid hR2
      go_enter Try.func96, Try.ntmps96
      go_upto_region 1 with (first | (refine box_row rfl _ _ rfl a.cells.toArray rfl hinfA.out ?_; intro w0 hbx hs0; have hbxl := blk_lt hbx; replace hbx := Lib.hid hbx; replace hs0 := Lib.hid hs0) | (refine box_row rfl _ _ rfl b.cells.toArray rfl hinfB.out ?_; intro w1 hby hs1; replace hby := Lib.hid hby; replace hs1 := Lib.hid hs1))
      have hbx1 := hs1.out.at hbx.out
      have c1 := ce_signs hbx1 hA.out.1
      have d1 := ce_signs hby.out hB.out.1
      have ca := Lib.hid (ce_vote hbx1)
      have cb := Lib.hid (ce_vote hby.out)
      have hw1 := Lib.hid (hs0.out.trans hs1.out)
      clear hbx hby hs0 hs1 hbx1
      rw [← hAe.out, ← hn.out] at c1
      rw [← hBe.out, ← hm.out] at d1
      have hveq := hveq.out
      have hvgd := hvgd.out
      go_wp2_with (first | (refine load_mid rfl _ _ rfl w.heap.size 0 rfl a.vote.cells _ ca.out Try.underlying30 rfl hinfvA.out ?_) | (refine load_mid rfl _ _ rfl w0.heap.size 0 rfl b.vote.cells _ cb.out Try.underlying30 rfl hinfvB.out ?_))
      go_ret
      exact ⟨by rw [hR2.out]; rfl, hw1.out⟩
end Go.Proofs.Ytmacgmmjgdmleaa
namespace Go.Proofs.Ytmacgmmjgdmleaa
open Go Go.RowKit
set_option linter.unusedSimpArgs false
set_option linter.unusedVariables false
set_option maxRecDepth 100000
/-- A part laid into cells. -/
theorem fold_part (A : List Value) : ∀ (pre mid post : List Value), mid.length = A.length → List.foldl (fun (c : Array Value) p => c.setIfInBounds p.2 p.1) (pre ++ (mid ++ post)).toArray (A.zipIdx pre.length) = (pre ++ (A ++ post)).toArray := by
  induction A with
  | nil => intro pre mid post h; have : mid = [] := List.eq_nil_of_length_eq_zero h; simp [this]
  | cons x A ih =>
    intro pre mid post h
    rcases mid with _ | ⟨z, mid⟩
    · simp at h
    · rw [List.zipIdx_cons, List.foldl_cons]
      have e : (pre ++ (z :: mid ++ post)).toArray.setIfInBounds pre.length x = ((pre ++ [x]) ++ (mid ++ post)).toArray := by
        rw [List.setIfInBounds_toArray, List.set_append_right _ _ (Nat.le_refl _)]
        simp
      simp only
      rw [e]
      have := ih (pre ++ [x]) mid post (by simpa using h)
      rw [show (pre ++ [x]).length = pre.length + 1 from by simp] at this
      rw [this]
      simp
theorem fill_step {place : Nat → Option (Nat × Nat)} {i : Nat} {v : Value} {A pre mid post : List Value} {rest : List (Nat × Value)} (hp : place i = some (pre.length, A.length)) (hv : v.cells = A.toArray) (h2 : mid.length = A.length) :
    Instr.fill place (pre ++ (mid ++ post)).toArray ((i, v) :: rest) = Instr.fill place (pre ++ (A ++ post)).toArray rest := by
  have e1 : (v.cells.zipIdx.foldl (fun (cs : Array Value) (p : Value × Nat) => cs.setIfInBounds (pre.length + p.2) p.1) (pre ++ (mid ++ post)).toArray) = (pre ++ (A ++ post)).toArray := by
    rw [hv, ← Array.foldl_toList, Array.toList_zipIdx, ← fold_part A pre mid post h2]
    have gen : ∀ (l : List Value) (k : Nat) (Z : Array Value), List.foldl (fun (cs : Array Value) (p : Value × Nat) => cs.setIfInBounds (pre.length + p.2) p.1) Z (l.zipIdx k) = List.foldl (fun (c : Array Value) p => c.setIfInBounds p.2 p.1) Z (l.zipIdx (pre.length + k)) := by
      intro l
      induction l with
      | nil => intro k Z; rfl
      | cons x l ih => intro k Z; rw [List.zipIdx_cons, List.zipIdx_cons, List.foldl_cons, List.foldl_cons]; exact ih (k + 1) _
    exact gen A 0 _
  conv => lhs; unfold Instr.fill
  rw [hp]
  simp only
  rw [if_neg (by rw [hv]; simp [h2])]
  exact congrArg (fun z => Instr.fill place z rest) e1
theorem built_struct {P : Program} {t : TypeId} {fs : Array Field} {z : Value} {places : List (Nat × Nat)} {parts : List (Nat × Value)} {cells : Array Value} (h1 : (P.info? t).map (·.zero) = some (some z)) (h2 : P.underlying t = some (.struct fs))
    (h3 : fs.toList.mapM (fun f => (P.info? f.type).map fun i => (f.offset, i.size)) = some places) (h4 : Instr.fill (places.toArray[·]?) z.cells parts = some cells) : P.built t parts = some cells := by
  unfold Program.built
  cases hi : P.info? t with
  | none => rw [hi] at h1; cases h1
  | some it =>
    rw [hi] at h1
    simp only [Option.map_some, Option.some.injEq] at h1
    rw [h2]
    simp only [h1, h3, h4]
section
variable {P : Program} {ops : Array Oper} {rest : List Oper} {o : Oper} {a : Act} {Q : Exit → Act → World → Prop}
/-- A struct put together. -/
theorem build_struct {W : World} (hg : Region.wanted o (yielded ops a.tmps) = true) (ty : TypeId) (parts : Array (Nat × Operand)) (ho : o.op = .build ty parts) (vs : List (Nat × Value)) (hp : parts.toList.map (fun p => (p.1, a.eval p.2)) = vs) (cells : Array Value) (hb : P.built ty vs = some cells)
    (h : wpList P ops Q rest (a.put o.dst (.agg cells)) W) : wpList P ops Q (o :: rest) a W := by
  refine wpL hg fun K hK => ?_
  have hr := run_build (P := P) W ty (parts.map fun p => (p.1, a.eval p.2)) cells (by rw [Array.toList_map, hp]; exact hb)
  unfold Oper.wp execOp
  simp only [ho, Sem.run_bind, Sem.run_pure, Result.andThen_ok, hr]
  exact hK _ _ h
end
theorem held_built (b : BatV) (c : CertV) (h : c.vote.wf) : Try.prog.built 38 [(0, .agg b.cells.toArray), (1, .agg c.cells.toArray)] = some (heldCells b c).toArray := by
  refine built_struct (z := .agg (heldCells zeroBat zeroCert).toArray) (places := [(0, 2), (2, 37)]) (by kernel_rfl) Try.underlying38 (by kernel_rfl) ?_
  have e1 := fill_step (place := (([(0, 2), (2, 37)] : List (Nat × Nat)).toArray[·]?)) (i := 0) (v := .agg b.cells.toArray) (A := b.cells) (pre := []) (mid := zeroBat.cells) (post := zeroCert.cells) (rest := [(1, .agg c.cells.toArray)]) rfl rfl rfl
  have e2 := fill_step (place := (([(0, 2), (2, 37)] : List (Nat × Nat)).toArray[·]?)) (i := 1) (v := .agg c.cells.toArray) (A := c.cells) (pre := b.cells) (mid := zeroCert.cells) (post := []) (rest := []) (by rw [CertV.len h]; rfl) rfl (by rw [CertV.len h]; rfl)
  rw [List.nil_append, List.append_nil] at *
  exact e1.trans (by simpa [heldCells, Instr.fill] using e2)
theorem ent_built (s : Int) (b : BatV) (c : CertV) (h : c.vote.wf) : Try.prog.built 40 [(0, .int .i64 s), (1, .agg b.cells.toArray), (2, .agg c.cells.toArray)] = some (entCells s b c).toArray := by
  refine built_struct (z := .agg (entCells 0 zeroBat zeroCert).toArray) (places := [(0, 1), (1, 2), (3, 37)]) (by kernel_rfl) Try.underlying40 (by kernel_rfl) ?_
  have e0 := fill_step (place := (([(0, 1), (1, 2), (3, 37)] : List (Nat × Nat)).toArray[·]?)) (i := 0) (v := .int .i64 s) (A := [.int .i64 s]) (pre := []) (mid := [.int .i64 0]) (post := zeroBat.cells ++ zeroCert.cells) (rest := [(1, .agg b.cells.toArray), (2, .agg c.cells.toArray)]) rfl rfl rfl
  have e1 := fill_step (place := (([(0, 1), (1, 2), (3, 37)] : List (Nat × Nat)).toArray[·]?)) (i := 1) (v := .agg b.cells.toArray) (A := b.cells) (pre := [.int .i64 s]) (mid := zeroBat.cells) (post := zeroCert.cells) (rest := [(2, .agg c.cells.toArray)]) rfl rfl rfl
  have e2 := fill_step (place := (([(0, 1), (1, 2), (3, 37)] : List (Nat × Nat)).toArray[·]?)) (i := 2) (v := .agg c.cells.toArray) (A := c.cells) (pre := [.int .i64 s] ++ b.cells) (mid := zeroCert.cells) (post := []) (rest := []) (by rw [CertV.len h]; rfl) rfl (by rw [CertV.len h]; rfl)
  refine e0.trans (e1.trans ?_)
  rw [List.append_nil, List.append_nil] at e2
  simp only [List.append_assoc] at e2 ⊢
  exact e2.trans (by simp [entCells, Instr.fill])
end Go.Proofs.Ytmacgmmjgdmleaa
