/-
  Configs: how many nodes there may be (quorum, raddleref05), which configs may be (leaders.Good, raddleref11.Good).
-/
import Derived.Test.YtmacgmmjgdmleaaRes
import Derived.Test.YtmacgmmjgdmleaaSha5
import Derived.Test.YtmacgmmjgdmleaaSha3
import Derived.Deep.DeepCutAuto
namespace Go.Proofs.Ytmacgmmjgdmleaa
open Go Go.RowKit
set_option linter.unusedSimpArgs false
set_option linter.unusedVariables false

structure Cfg where
  nodes : Int
  clients : Int
  window : Int
  buckets : Int
  cap : Int
  slots : Int
  requests : Int
  timeout : Int
  penalty : Int
  last : Int
def Cfg.list (c : Cfg) : List Int := [c.nodes, c.clients, c.window, c.buckets, c.cap, c.slots, c.requests, c.timeout, c.penalty, c.last]
def Cfg.cells (c : Cfg) : List Value := iv c.list
theorem Cfg.cells_length (c : Cfg) : c.cells.length = 10 := rfl
def qgood (n : Int) : Bool := decide (4 ≤ n) && (decide (n ≤ 64) && decide (n % 3 = 1))
theorem qgood_iff (n : Int) : qgood n = true ↔ 4 ≤ n ∧ n ≤ 64 ∧ n % 3 = 1 := by simp [qgood]
def inside (x lo hi : Int) : Bool := decide (lo ≤ x) && decide (x ≤ hi)
theorem inside_iff (x lo hi : Int) : inside x lo hi = true ↔ lo ≤ x ∧ x ≤ hi := by simp [inside]
def Cfg.spans (c : Cfg) : List (Int × Int × Int) := [(c.clients, 1, 8), (c.window, 1, 64), (c.buckets, 1, c.nodes), (c.cap, 1, 16), (c.slots, 1, 4), (c.requests, 1, 4), (c.timeout, 12, 64), (c.penalty, 0, 8), (c.last, 1, 1048576)]
def Cfg.good (c : Cfg) : Bool := qgood c.nodes && c.spans.all fun s => inside s.1 s.2.1 s.2.2
/-- The error's number. -/
def Cfg.err (c : Cfg) : Int := if c.good then 0 else 110
def qsome (n : Int) : Int := if qgood n then n / 3 + 1 else 0
theorem cfg_info (c : Cfg) : (Try.prog.info? 68).map (·.size) = some c.cells.toArray.size := by
  rw [List.size_toArray, Cfg.cells_length]
  kernel_rfl
set_option maxRecDepth 100000 in
set_option maxHeartbeats 400000 in
theorem qgood_true (n : Int) (w : World) (h : qgood n = true) : Calls Try.prog 159 #[.int .i64 n] w fun e w' => e = .returned (.bool true) ∧ w = w' := by
  obtain ⟨h1, h2, h3⟩ := (qgood_iff n).1 h
  clear h
  have h4 : (n % 3 == 1) = true := by simp [h3]
  clear h3
  go_enter Try.func159, Try.ntmps159
  go_wp2
  go_ret
  exact ⟨rfl, rfl⟩
set_option maxRecDepth 100000 in
set_option maxHeartbeats 400000 in
theorem qgood_false (n : Int) (w : World) (h : qgood n = false) : Calls Try.prog 159 #[.int .i64 n] w fun e w' => e = .returned (.bool false) ∧ w = w' := by
  have h' : ¬ (4 ≤ n ∧ n ≤ 64 ∧ n % 3 = 1) := by rw [← qgood_iff, h]; simp
  clear h
  by_cases h1 : 4 ≤ n
  · by_cases h2 : n ≤ 64
    · have h4 : (n % 3 == 1) = false := by simp; omega
      clear h'
      go_enter Try.func159, Try.ntmps159
      go_wp2
      go_ret
      exact ⟨rfl, rfl⟩
    · clear h'
      go_enter Try.func159, Try.ntmps159
      go_wp2
      go_ret
      exact ⟨rfl, rfl⟩
  · clear h'
    go_enter Try.func159, Try.ntmps159
    go_wp2
    go_ret
    exact ⟨rfl, rfl⟩
theorem qgood_any (n : Int) (w : World) : Calls Try.prog 159 #[.int .i64 n] w fun e w' => e = .returned (.bool (qgood n)) ∧ w = w' := by
  cases h : qgood n
  · exact qgood_false n w h
  · exact qgood_true n w h
set_option maxRecDepth 100000 in
set_option maxHeartbeats 400000 in
theorem rqgood_any (n : Int) (w : World) : Calls Try.prog 169 #[.int .i64 n] w fun e w' => e = .returned (.bool (qgood n)) ∧ w = w' := by
  cases h : qgood n
  · have h' : ¬ (4 ≤ n ∧ n ≤ 64 ∧ n % 3 = 1) := by rw [← qgood_iff, h]; simp
    clear h
    by_cases h1 : 4 ≤ n
    · by_cases h2 : n ≤ 64
      · have h4 : (n % 3 == 1) = false := by simp; omega
        clear h'
        go_enter Try.func169, Try.ntmps169
        go_wp2
        go_ret
        exact ⟨rfl, rfl⟩
      · clear h'
        go_enter Try.func169, Try.ntmps169
        go_wp2
        go_ret
        exact ⟨rfl, rfl⟩
    · clear h'
      go_enter Try.func169, Try.ntmps169
      go_wp2
      go_ret
      exact ⟨rfl, rfl⟩
  · obtain ⟨h1, h2, h3⟩ := (qgood_iff n).1 h
    clear h
    have h4 : (n % 3 == 1) = true := by simp [h3]
    clear h3
    go_enter Try.func169, Try.ntmps169
    go_wp2
    go_ret
    exact ⟨rfl, rfl⟩
set_option maxRecDepth 100000 in
set_option maxHeartbeats 400000 in
theorem qsome_any (n : Int) (w : World) : Calls Try.prog 190 #[.int .i64 n] w fun e w' => e = .returned (.int .i64 (qsome n)) ∧ w = w' := by
  have key : Calls Try.prog 197 #[.int .i64 n, .int .i64 1] w fun e w' => e = .returned (.int .i64 (qsome n)) ∧ w = w' := by
    unfold qsome
    cases h : qgood n
    · have hq := Lib.hid (qgood_false n w h)
      clear h
      go_enter Try.func197, Try.ntmps197
      go_wp2_with fail
      refine hq.out.mono ?_
      rintro e w' ⟨rfl, rfl⟩
      go_wp2
      go_ret
      exact ⟨rfl, rfl⟩
    · have hq := Lib.hid (qgood_true n w h)
      obtain ⟨h1, h2, h3⟩ := (qgood_iff n).1 h
      clear h h3
      go_enter Try.func197, Try.ntmps197
      go_wp2_with fail
      refine hq.out.mono ?_
      rintro e w' ⟨rfl, rfl⟩
      go_wp2
      go_ret
      exact ⟨by simp, rfl⟩
  replace key := Lib.hid key
  go_enter Try.func190, Try.ntmps190
  go_wp2_with fail
  refine key.out.mono ?_
  rintro e w' ⟨rfl, rfl⟩
  go_wp2
  go_ret
  exact ⟨rfl, rfl⟩
set_option maxRecDepth 100000 in
set_option maxHeartbeats 400000 in
theorem rqsome_any (n : Int) (w : World) : Calls Try.prog 194 #[.int .i64 n] w fun e w' => e = .returned (.int .i64 (qsome n)) ∧ w = w' := by
  have hq := rqgood_any n w
  unfold qsome
  cases h : qgood n
  · rw [h] at hq
    replace hq := Lib.hid hq
    clear h
    go_enter Try.func194, Try.ntmps194
    go_wp2_with fail
    refine hq.out.mono ?_
    rintro e w' ⟨rfl, rfl⟩
    go_wp2
    go_ret
    exact ⟨rfl, rfl⟩
  · rw [h] at hq
    replace hq := Lib.hid hq
    obtain ⟨h1, h2, h3⟩ := (qgood_iff n).1 h
    clear h h3
    go_enter Try.func194, Try.ntmps194
    go_wp2_with fail
    refine hq.out.mono ?_
    rintro e w' ⟨rfl, rfl⟩
    go_wp2
    go_ret
    exact ⟨by simp, rfl⟩
/-- The spans' cells. -/
def spanC (s : Int × Int × Int) : List Value := iv [s.1, s.2.1, s.2.2]
theorem spans_index (c : Cfg) (k : Nat) (hk : k < 9) (w : World) : (Instr.index 231 (.agg (c.spans.map spanC).flatten.toArray) (.int .i64 (k : Int))).run Try.prog w = .ok (.agg (spanC (c.spans.getD k (0, 0, 0))).toArray) w := by
  rcases k with _ | _ | _ | _ | _ | _ | _ | _ | _ | k <;> first | omega | kernel_rfl
theorem span_info (s : Int × Int × Int) : (Try.prog.info? 230).map (·.size) = some (spanC s).toArray.size := by
  kernel_rfl
theorem cfg_cell {w : World} {b T : Nat} {c : Cfg} (h : w.heap[b]? = some (.cells c.cells.toArray T (0, 0))) (j : Nat) (hj : j < 10) : w.cell? ⟨b, j, none⟩ = some (.int .i64 (c.list.getD j 0)) := by
  rw [blk_cell h]
  simp only [List.getElem?_toArray, Cfg.cells]
  have h2 : j < c.list.length := hj
  rw [iv_get h2]
  simp [List.getD, h2]
/-- The first k spans hold. -/
def Cfg.upto (c : Cfg) (k : Nat) : Bool := (c.spans.take k).all fun s => inside s.1 s.2.1 s.2.2
theorem Cfg.upto_succ (c : Cfg) (k : Nat) (hk : k < 9) : c.upto (k + 1) = (c.upto k && inside (c.spans.getD k (0, 0, 0)).1 (c.spans.getD k (0, 0, 0)).2.1 (c.spans.getD k (0, 0, 0)).2.2) := by
  have h : k < c.spans.length := hk
  unfold Cfg.upto
  rw [List.take_succ_eq_append_getElem h, List.all_append]
  simp [List.getD, h]
theorem Cfg.upto_all (c : Cfg) : c.upto 9 = c.spans.all fun s => inside s.1 s.2.1 s.2.2 := rfl
theorem Cfg.upto_bad (c : Cfg) (k : Nat) (hk : k < 9) (h : inside (c.spans.getD k (0, 0, 0)).1 (c.spans.getD k (0, 0, 0)).2.1 (c.spans.getD k (0, 0, 0)).2.2 = false) : c.good = false := by
  have h2 : k < c.spans.length := hk
  have : (c.spans.all fun s => inside s.1 s.2.1 s.2.2) = false := by
    rw [List.all_eq_false]
    refine ⟨c.spans[k], List.getElem_mem h2, ?_⟩
    have e : c.spans.getD k (0, 0, 0) = c.spans[k] := by simp [List.getD, h2]
    rw [e] at h
    simp [h]
  rw [Cfg.good, this, Bool.and_false]
set_option maxRecDepth 100000 in
set_option maxHeartbeats 1600000 in
theorem cgood_any (c : Cfg) (w : World) : Calls Try.prog 109 #[.agg c.cells.toArray] w fun e w' => e = .returned (.int .i64 c.err) ∧ Same w w' := by
  have hinfC := Lib.hid (cfg_info c)
  have hq := Lib.hid (fun w => qgood_any c.nodes w)
  unfold Cfg.err
  cases hg : qgood c.nodes
  · have hr : c.good = false := by rw [Cfg.good, hg]; rfl
    rw [hr]
    rw [hg] at hq
    clear hr hg
    go_enter Try.func109, Try.ntmps109
    go_upto_region 1 with (refine box_row rfl _ _ rfl _ rfl hinfC.out ?_; intro w0 hbx hs0; have c0 := cfg_cell hbx 0 (by omega); clear hbx; replace hs0 := Lib.hid hs0)
    replace c0 : w0.cell? ⟨w.heap.size, 0, none⟩ = some (.int .i64 c.nodes) := c0
    go_wp2_with fail
    refine (hq.out _).mono ?_
    rintro e w1 ⟨rfl, rfl⟩
    go_wp2
    go_ret
    exact ⟨rfl, hs0.out⟩
  · rw [hg] at hq
    obtain ⟨R, hG⟩ : ∃ R, R = (if c.good then (0 : Int) else 110) := ⟨_, rfl⟩
    rw [← hG]
    replace hg := Lib.hid hg
    replace hG := Lib.hid hG
    go_enter Try.func109, Try.ntmps109
    go_upto_region 1 with (refine box_row rfl _ _ rfl _ rfl hinfC.out ?_; intro w0 hbx hs0; replace hs0 := Lib.hid hs0)
    have c0 : w0.cell? ⟨w.heap.size, 0, none⟩ = some (.int .i64 c.nodes) := cfg_cell hbx 0 (by omega)
    have c1 : w0.cell? ⟨w.heap.size, 1, none⟩ = some (.int .i64 c.clients) := cfg_cell hbx 1 (by omega)
    have c2 : w0.cell? ⟨w.heap.size, 2, none⟩ = some (.int .i64 c.window) := cfg_cell hbx 2 (by omega)
    have c3 : w0.cell? ⟨w.heap.size, 3, none⟩ = some (.int .i64 c.buckets) := cfg_cell hbx 3 (by omega)
    have c4 : w0.cell? ⟨w.heap.size, 4, none⟩ = some (.int .i64 c.cap) := cfg_cell hbx 4 (by omega)
    have c5 : w0.cell? ⟨w.heap.size, 5, none⟩ = some (.int .i64 c.slots) := cfg_cell hbx 5 (by omega)
    have c6 : w0.cell? ⟨w.heap.size, 6, none⟩ = some (.int .i64 c.requests) := cfg_cell hbx 6 (by omega)
    have c7 : w0.cell? ⟨w.heap.size, 7, none⟩ = some (.int .i64 c.timeout) := cfg_cell hbx 7 (by omega)
    have c8 : w0.cell? ⟨w.heap.size, 8, none⟩ = some (.int .i64 c.penalty) := cfg_cell hbx 8 (by omega)
    have c9 : w0.cell? ⟨w.heap.size, 9, none⟩ = some (.int .i64 c.last) := cfg_cell hbx 9 (by omega)
    clear hbx
    go_wp2_with fail
    refine (hq.out _).mono ?_
    rintro e w1 ⟨rfl, rfl⟩
    go_wp2
    obtain ⟨SA, hSA⟩ : ∃ A, A = (c.spans.map spanC).flatten.toArray := ⟨_, rfl⟩
    rw [show (#[.int .i64 c.clients, .int .i64 1, .int .i64 8, .int .i64 c.window, .int .i64 1, .int .i64 64, .int .i64 c.buckets, .int .i64 1, .int .i64 c.nodes, .int .i64 c.cap, .int .i64 1, .int .i64 16, .int .i64 c.slots, .int .i64 1, .int .i64 4, .int .i64 c.requests, .int .i64 1, .int .i64 4, .int .i64 c.timeout, .int .i64 12, .int .i64 64, .int .i64 c.penalty, .int .i64 0, .int .i64 8, .int .i64 c.last, .int .i64 1, .int .i64 1048576] : Array Value) = SA from hSA.symm]
    have hix := fun k hk w => spans_index c k hk w
    rw [← hSA] at hix
    clear hSA c0 c1 c2 c3 c4 c5 c6 c7 c8 c9
    have hsucc := fun k hk => Cfg.upto_succ c k hk
    have hbad := fun k hk => Cfg.upto_bad c k hk
    replace hix := Lib.hid hix
    replace hsucc := Lib.hid hsucc
    replace hbad := Lib.hid hbad
    go_loopw [39] (fun i wr => ∃ k : Nat, k ≤ 9 ∧ i = .int .i64 k ∧ c.upto k = true ∧ Same w0 wr) (fun i _ => 9 - (intOf i).toNat)
    case atStart => exact ⟨0, by omega, rfl, rfl, Same.refl⟩
    case round =>
      obtain ⟨k, hk, rfl, hup, hs⟩ := hrel
      by_cases hlt : k < 9
      · have hi := hix.out k hlt wr
        have hsc := hsucc.out k hlt
        have hbd := hbad.out k hlt
        obtain ⟨⟨n, lo, hh⟩, he⟩ : ∃ s, s = c.spans.getD k (0, 0, 0) := ⟨_, rfl⟩
        rw [← he] at hi hsc hbd
        replace hi : (Instr.index 231 (.agg SA) (.int .i64 (k : Int))).run Try.prog wr = .ok (.agg #[.int .i64 n, .int .i64 lo, .int .i64 hh]) wr := hi
        have q0 : 0 ≤ (k : Int) := by omega
        have q1 : (k : Int) < 9 := by omega
        clear he
        replace hs := Lib.hid hs
        replace hup := Lib.hid hup
        by_cases h1 : lo ≤ n
        · by_cases h2 : n ≤ hh
          · have h3 : inside n lo hh = true := (inside_iff _ _ _).2 ⟨h1, h2⟩
            rw [hup.out, h3] at hsc
            clear h3 hbd
            replace hsc := Lib.hid hsc
            go_wp2
            go_roundw
            case rel => exact ⟨k + 1, by omega, by go_num, hsc.out, hs.out.alloc _⟩
            case measure => simp [intOf]; omega
          · have h3 : c.good = false := hbd (by rw [Bool.eq_false_iff]; intro h; exact h2 ((inside_iff _ _ _).1 h).2)
            have hG' := hG.out
            rw [h3] at hG'
            clear hbd hsc h3
            replace hG' := Lib.hid hG'
            go_wp2
            go_ret
            exact ⟨by rw [hG'.out]; rfl, hs0.out.trans (hs.out.alloc _)⟩
        · have h3 : c.good = false := hbd (by rw [Bool.eq_false_iff]; intro h; exact h1 ((inside_iff _ _ _).1 h).1)
          have hG' := hG.out
          rw [h3] at hG'
          clear hbd hsc h3
          replace hG' := Lib.hid hG'
          go_wp2
          go_ret
          exact ⟨by rw [hG'.out]; rfl, hs0.out.trans (hs.out.alloc _)⟩
      · obtain rfl : k = 9 := by omega
        have h3 : c.good = true := by rw [Cfg.good, hg.out, ← Cfg.upto_all, hup]; rfl
        have hG' := hG.out
        rw [h3] at hG'
        clear h3 hup
        replace hG' := Lib.hid hG'
        go_wp2
        go_ret
        exact ⟨by rw [hG'.out]; rfl, hs0.out.trans hs⟩
set_option maxRecDepth 100000 in
set_option maxHeartbeats 400000 in
theorem within_any (n lo hi : Int) (w : World) : Calls Try.prog 170 #[.int .i64 n, .int .i64 lo, .int .i64 hi] w fun e w' => e = .returned (.bool (inside n lo hi)) ∧ w = w' := by
  unfold inside
  by_cases h1 : lo ≤ n
  · by_cases h2 : n ≤ hi
    all_goals
      go_enter Try.func170, Try.ntmps170
      go_wp2
      go_ret
      exact ⟨by simp [h1, h2], rfl⟩
  · go_enter Try.func170, Try.ntmps170
    go_wp2
    go_ret
    exact ⟨by simp; omega, rfl⟩
set_option maxRecDepth 100000 in
set_option maxHeartbeats 800000 in
theorem rcg0 (c : Cfg) (w : World) (hq : qgood c.nodes = false) : Calls Try.prog 127 #[.agg c.cells.toArray] w fun e w' => e = .returned (.int .i64 110) ∧ Same w w' := by
  have hinfC := Lib.hid (cfg_info c)
  have hqc := fun w => rqgood_any c.nodes w
  rw [hq] at hqc
  replace hqc := Lib.hid hqc
  clear hq 
  go_enter Try.func127, Try.ntmps127
  go_upto_region 1 with (refine box_row rfl _ _ rfl _ rfl hinfC.out ?_; intro w0 hbx hs0; replace hs0 := Lib.hid hs0)
  have c0 : w0.cell? ⟨w.heap.size, 0, none⟩ = some (.int .i64 c.nodes) := cfg_cell hbx 0 (by omega)
  clear hbx
  go_wp2_with fail
  refine (hqc.out _).mono ?_
  rintro e w1 ⟨rfl, rfl⟩
  go_wp2
  go_ret
  exact ⟨rfl, hs0.out⟩
set_option maxRecDepth 100000 in
set_option maxHeartbeats 800000 in
theorem rcg1 (c : Cfg) (w : World) (hq : qgood c.nodes = true) (h1 : inside c.clients 1 8 = false) : Calls Try.prog 127 #[.agg c.cells.toArray] w fun e w' => e = .returned (.int .i64 110) ∧ Same w w' := by
  have hinfC := Lib.hid (cfg_info c)
  have hqc := fun w => rqgood_any c.nodes w
  rw [hq] at hqc
  replace hqc := Lib.hid hqc
  have g1 := fun w => within_any c.clients 1 8 w
  rw [h1] at g1
  replace g1 := Lib.hid g1
  clear hq h1
  go_enter Try.func127, Try.ntmps127
  go_upto_region 1 with (refine box_row rfl _ _ rfl _ rfl hinfC.out ?_; intro w0 hbx hs0; replace hs0 := Lib.hid hs0)
  have c0 : w0.cell? ⟨w.heap.size, 0, none⟩ = some (.int .i64 c.nodes) := cfg_cell hbx 0 (by omega)
  have c1 : w0.cell? ⟨w.heap.size, 1, none⟩ = some (.int .i64 c.clients) := cfg_cell hbx 1 (by omega)
  clear hbx
  go_wp2_with fail
  refine (hqc.out _).mono ?_
  rintro e w1 ⟨rfl, rfl⟩
  go_wp2_with fail
  refine (g1.out _).mono ?_
  rintro e w1 ⟨rfl, rfl⟩
  go_wp2
  go_ret
  exact ⟨rfl, hs0.out⟩
set_option maxRecDepth 100000 in
set_option maxHeartbeats 800000 in
theorem rcg2 (c : Cfg) (w : World) (hq : qgood c.nodes = true) (h1 : inside c.clients 1 8 = true) (h2 : inside c.window 1 64 = false) : Calls Try.prog 127 #[.agg c.cells.toArray] w fun e w' => e = .returned (.int .i64 110) ∧ Same w w' := by
  have hinfC := Lib.hid (cfg_info c)
  have hqc := fun w => rqgood_any c.nodes w
  rw [hq] at hqc
  replace hqc := Lib.hid hqc
  have g1 := fun w => within_any c.clients 1 8 w
  rw [h1] at g1
  replace g1 := Lib.hid g1
  have g2 := fun w => within_any c.window 1 64 w
  rw [h2] at g2
  replace g2 := Lib.hid g2
  clear hq h1 h2
  go_enter Try.func127, Try.ntmps127
  go_upto_region 1 with (refine box_row rfl _ _ rfl _ rfl hinfC.out ?_; intro w0 hbx hs0; replace hs0 := Lib.hid hs0)
  have c0 : w0.cell? ⟨w.heap.size, 0, none⟩ = some (.int .i64 c.nodes) := cfg_cell hbx 0 (by omega)
  have c1 : w0.cell? ⟨w.heap.size, 1, none⟩ = some (.int .i64 c.clients) := cfg_cell hbx 1 (by omega)
  have c2 : w0.cell? ⟨w.heap.size, 2, none⟩ = some (.int .i64 c.window) := cfg_cell hbx 2 (by omega)
  clear hbx
  go_wp2_with fail
  refine (hqc.out _).mono ?_
  rintro e w1 ⟨rfl, rfl⟩
  go_wp2_with fail
  refine (g1.out _).mono ?_
  rintro e w1 ⟨rfl, rfl⟩
  go_wp2_with fail
  refine (g2.out _).mono ?_
  rintro e w1 ⟨rfl, rfl⟩
  go_wp2
  go_ret
  exact ⟨rfl, hs0.out⟩
set_option maxRecDepth 100000 in
set_option maxHeartbeats 800000 in
theorem rcg3 (c : Cfg) (w : World) (hq : qgood c.nodes = true) (h1 : inside c.clients 1 8 = true) (h2 : inside c.window 1 64 = true) (h3 : inside c.buckets 1 c.nodes = false) : Calls Try.prog 127 #[.agg c.cells.toArray] w fun e w' => e = .returned (.int .i64 110) ∧ Same w w' := by
  have hinfC := Lib.hid (cfg_info c)
  have hqc := fun w => rqgood_any c.nodes w
  rw [hq] at hqc
  replace hqc := Lib.hid hqc
  have g1 := fun w => within_any c.clients 1 8 w
  rw [h1] at g1
  replace g1 := Lib.hid g1
  have g2 := fun w => within_any c.window 1 64 w
  rw [h2] at g2
  replace g2 := Lib.hid g2
  have g3 := fun w => within_any c.buckets 1 c.nodes w
  rw [h3] at g3
  replace g3 := Lib.hid g3
  clear hq h1 h2 h3
  go_enter Try.func127, Try.ntmps127
  go_upto_region 1 with (refine box_row rfl _ _ rfl _ rfl hinfC.out ?_; intro w0 hbx hs0; replace hs0 := Lib.hid hs0)
  have c0 : w0.cell? ⟨w.heap.size, 0, none⟩ = some (.int .i64 c.nodes) := cfg_cell hbx 0 (by omega)
  have c1 : w0.cell? ⟨w.heap.size, 1, none⟩ = some (.int .i64 c.clients) := cfg_cell hbx 1 (by omega)
  have c2 : w0.cell? ⟨w.heap.size, 2, none⟩ = some (.int .i64 c.window) := cfg_cell hbx 2 (by omega)
  have c3 : w0.cell? ⟨w.heap.size, 3, none⟩ = some (.int .i64 c.buckets) := cfg_cell hbx 3 (by omega)
  clear hbx
  go_wp2_with fail
  refine (hqc.out _).mono ?_
  rintro e w1 ⟨rfl, rfl⟩
  go_wp2_with fail
  refine (g1.out _).mono ?_
  rintro e w1 ⟨rfl, rfl⟩
  go_wp2_with fail
  refine (g2.out _).mono ?_
  rintro e w1 ⟨rfl, rfl⟩
  go_wp2_with fail
  refine (g3.out _).mono ?_
  rintro e w1 ⟨rfl, rfl⟩
  go_wp2
  go_ret
  exact ⟨rfl, hs0.out⟩
set_option maxRecDepth 100000 in
set_option maxHeartbeats 800000 in
theorem rcg4 (c : Cfg) (w : World) (hq : qgood c.nodes = true) (h1 : inside c.clients 1 8 = true) (h2 : inside c.window 1 64 = true) (h3 : inside c.buckets 1 c.nodes = true) (h4 : inside c.cap 1 16 = false) : Calls Try.prog 127 #[.agg c.cells.toArray] w fun e w' => e = .returned (.int .i64 110) ∧ Same w w' := by
  have hinfC := Lib.hid (cfg_info c)
  have hqc := fun w => rqgood_any c.nodes w
  rw [hq] at hqc
  replace hqc := Lib.hid hqc
  have g1 := fun w => within_any c.clients 1 8 w
  rw [h1] at g1
  replace g1 := Lib.hid g1
  have g2 := fun w => within_any c.window 1 64 w
  rw [h2] at g2
  replace g2 := Lib.hid g2
  have g3 := fun w => within_any c.buckets 1 c.nodes w
  rw [h3] at g3
  replace g3 := Lib.hid g3
  have g4 := fun w => within_any c.cap 1 16 w
  rw [h4] at g4
  replace g4 := Lib.hid g4
  clear hq h1 h2 h3 h4
  go_enter Try.func127, Try.ntmps127
  go_upto_region 1 with (refine box_row rfl _ _ rfl _ rfl hinfC.out ?_; intro w0 hbx hs0; replace hs0 := Lib.hid hs0)
  have c0 : w0.cell? ⟨w.heap.size, 0, none⟩ = some (.int .i64 c.nodes) := cfg_cell hbx 0 (by omega)
  have c1 : w0.cell? ⟨w.heap.size, 1, none⟩ = some (.int .i64 c.clients) := cfg_cell hbx 1 (by omega)
  have c2 : w0.cell? ⟨w.heap.size, 2, none⟩ = some (.int .i64 c.window) := cfg_cell hbx 2 (by omega)
  have c3 : w0.cell? ⟨w.heap.size, 3, none⟩ = some (.int .i64 c.buckets) := cfg_cell hbx 3 (by omega)
  have c4 : w0.cell? ⟨w.heap.size, 4, none⟩ = some (.int .i64 c.cap) := cfg_cell hbx 4 (by omega)
  clear hbx
  go_wp2_with fail
  refine (hqc.out _).mono ?_
  rintro e w1 ⟨rfl, rfl⟩
  go_wp2_with fail
  refine (g1.out _).mono ?_
  rintro e w1 ⟨rfl, rfl⟩
  go_wp2_with fail
  refine (g2.out _).mono ?_
  rintro e w1 ⟨rfl, rfl⟩
  go_wp2_with fail
  refine (g3.out _).mono ?_
  rintro e w1 ⟨rfl, rfl⟩
  go_wp2_with fail
  refine (g4.out _).mono ?_
  rintro e w1 ⟨rfl, rfl⟩
  go_wp2
  go_ret
  exact ⟨rfl, hs0.out⟩
set_option maxRecDepth 100000 in
set_option maxHeartbeats 800000 in
theorem rcg5 (c : Cfg) (w : World) (hq : qgood c.nodes = true) (h1 : inside c.clients 1 8 = true) (h2 : inside c.window 1 64 = true) (h3 : inside c.buckets 1 c.nodes = true) (h4 : inside c.cap 1 16 = true) (h5 : inside c.slots 1 4 = false) : Calls Try.prog 127 #[.agg c.cells.toArray] w fun e w' => e = .returned (.int .i64 110) ∧ Same w w' := by
  have hinfC := Lib.hid (cfg_info c)
  have hqc := fun w => rqgood_any c.nodes w
  rw [hq] at hqc
  replace hqc := Lib.hid hqc
  have g1 := fun w => within_any c.clients 1 8 w
  rw [h1] at g1
  replace g1 := Lib.hid g1
  have g2 := fun w => within_any c.window 1 64 w
  rw [h2] at g2
  replace g2 := Lib.hid g2
  have g3 := fun w => within_any c.buckets 1 c.nodes w
  rw [h3] at g3
  replace g3 := Lib.hid g3
  have g4 := fun w => within_any c.cap 1 16 w
  rw [h4] at g4
  replace g4 := Lib.hid g4
  have g5 := fun w => within_any c.slots 1 4 w
  rw [h5] at g5
  replace g5 := Lib.hid g5
  clear hq h1 h2 h3 h4 h5
  go_enter Try.func127, Try.ntmps127
  go_upto_region 1 with (refine box_row rfl _ _ rfl _ rfl hinfC.out ?_; intro w0 hbx hs0; replace hs0 := Lib.hid hs0)
  have c0 : w0.cell? ⟨w.heap.size, 0, none⟩ = some (.int .i64 c.nodes) := cfg_cell hbx 0 (by omega)
  have c1 : w0.cell? ⟨w.heap.size, 1, none⟩ = some (.int .i64 c.clients) := cfg_cell hbx 1 (by omega)
  have c2 : w0.cell? ⟨w.heap.size, 2, none⟩ = some (.int .i64 c.window) := cfg_cell hbx 2 (by omega)
  have c3 : w0.cell? ⟨w.heap.size, 3, none⟩ = some (.int .i64 c.buckets) := cfg_cell hbx 3 (by omega)
  have c4 : w0.cell? ⟨w.heap.size, 4, none⟩ = some (.int .i64 c.cap) := cfg_cell hbx 4 (by omega)
  have c5 : w0.cell? ⟨w.heap.size, 5, none⟩ = some (.int .i64 c.slots) := cfg_cell hbx 5 (by omega)
  clear hbx
  go_wp2_with fail
  refine (hqc.out _).mono ?_
  rintro e w1 ⟨rfl, rfl⟩
  go_wp2_with fail
  refine (g1.out _).mono ?_
  rintro e w1 ⟨rfl, rfl⟩
  go_wp2_with fail
  refine (g2.out _).mono ?_
  rintro e w1 ⟨rfl, rfl⟩
  go_wp2_with fail
  refine (g3.out _).mono ?_
  rintro e w1 ⟨rfl, rfl⟩
  go_wp2_with fail
  refine (g4.out _).mono ?_
  rintro e w1 ⟨rfl, rfl⟩
  go_wp2_with fail
  refine (g5.out _).mono ?_
  rintro e w1 ⟨rfl, rfl⟩
  go_wp2
  go_ret
  exact ⟨rfl, hs0.out⟩
set_option maxRecDepth 100000 in
set_option maxHeartbeats 800000 in
theorem rcg6 (c : Cfg) (w : World) (hq : qgood c.nodes = true) (h1 : inside c.clients 1 8 = true) (h2 : inside c.window 1 64 = true) (h3 : inside c.buckets 1 c.nodes = true) (h4 : inside c.cap 1 16 = true) (h5 : inside c.slots 1 4 = true) (h6 : inside c.requests 1 4 = false) : Calls Try.prog 127 #[.agg c.cells.toArray] w fun e w' => e = .returned (.int .i64 110) ∧ Same w w' := by
  have hinfC := Lib.hid (cfg_info c)
  have hqc := fun w => rqgood_any c.nodes w
  rw [hq] at hqc
  replace hqc := Lib.hid hqc
  have g1 := fun w => within_any c.clients 1 8 w
  rw [h1] at g1
  replace g1 := Lib.hid g1
  have g2 := fun w => within_any c.window 1 64 w
  rw [h2] at g2
  replace g2 := Lib.hid g2
  have g3 := fun w => within_any c.buckets 1 c.nodes w
  rw [h3] at g3
  replace g3 := Lib.hid g3
  have g4 := fun w => within_any c.cap 1 16 w
  rw [h4] at g4
  replace g4 := Lib.hid g4
  have g5 := fun w => within_any c.slots 1 4 w
  rw [h5] at g5
  replace g5 := Lib.hid g5
  have g6 := fun w => within_any c.requests 1 4 w
  rw [h6] at g6
  replace g6 := Lib.hid g6
  clear hq h1 h2 h3 h4 h5 h6
  go_enter Try.func127, Try.ntmps127
  go_upto_region 1 with (refine box_row rfl _ _ rfl _ rfl hinfC.out ?_; intro w0 hbx hs0; replace hs0 := Lib.hid hs0)
  have c0 : w0.cell? ⟨w.heap.size, 0, none⟩ = some (.int .i64 c.nodes) := cfg_cell hbx 0 (by omega)
  have c1 : w0.cell? ⟨w.heap.size, 1, none⟩ = some (.int .i64 c.clients) := cfg_cell hbx 1 (by omega)
  have c2 : w0.cell? ⟨w.heap.size, 2, none⟩ = some (.int .i64 c.window) := cfg_cell hbx 2 (by omega)
  have c3 : w0.cell? ⟨w.heap.size, 3, none⟩ = some (.int .i64 c.buckets) := cfg_cell hbx 3 (by omega)
  have c4 : w0.cell? ⟨w.heap.size, 4, none⟩ = some (.int .i64 c.cap) := cfg_cell hbx 4 (by omega)
  have c5 : w0.cell? ⟨w.heap.size, 5, none⟩ = some (.int .i64 c.slots) := cfg_cell hbx 5 (by omega)
  have c6 : w0.cell? ⟨w.heap.size, 6, none⟩ = some (.int .i64 c.requests) := cfg_cell hbx 6 (by omega)
  clear hbx
  go_wp2_with fail
  refine (hqc.out _).mono ?_
  rintro e w1 ⟨rfl, rfl⟩
  go_wp2_with fail
  refine (g1.out _).mono ?_
  rintro e w1 ⟨rfl, rfl⟩
  go_wp2_with fail
  refine (g2.out _).mono ?_
  rintro e w1 ⟨rfl, rfl⟩
  go_wp2_with fail
  refine (g3.out _).mono ?_
  rintro e w1 ⟨rfl, rfl⟩
  go_wp2_with fail
  refine (g4.out _).mono ?_
  rintro e w1 ⟨rfl, rfl⟩
  go_wp2_with fail
  refine (g5.out _).mono ?_
  rintro e w1 ⟨rfl, rfl⟩
  go_wp2_with fail
  refine (g6.out _).mono ?_
  rintro e w1 ⟨rfl, rfl⟩
  go_wp2
  go_ret
  exact ⟨rfl, hs0.out⟩
set_option maxRecDepth 100000 in
set_option maxHeartbeats 800000 in
theorem rcg7 (c : Cfg) (w : World) (hq : qgood c.nodes = true) (h1 : inside c.clients 1 8 = true) (h2 : inside c.window 1 64 = true) (h3 : inside c.buckets 1 c.nodes = true) (h4 : inside c.cap 1 16 = true) (h5 : inside c.slots 1 4 = true) (h6 : inside c.requests 1 4 = true) (h7 : inside c.timeout 12 64 = false) : Calls Try.prog 127 #[.agg c.cells.toArray] w fun e w' => e = .returned (.int .i64 110) ∧ Same w w' := by
  have hinfC := Lib.hid (cfg_info c)
  have hqc := fun w => rqgood_any c.nodes w
  rw [hq] at hqc
  replace hqc := Lib.hid hqc
  have g1 := fun w => within_any c.clients 1 8 w
  rw [h1] at g1
  replace g1 := Lib.hid g1
  have g2 := fun w => within_any c.window 1 64 w
  rw [h2] at g2
  replace g2 := Lib.hid g2
  have g3 := fun w => within_any c.buckets 1 c.nodes w
  rw [h3] at g3
  replace g3 := Lib.hid g3
  have g4 := fun w => within_any c.cap 1 16 w
  rw [h4] at g4
  replace g4 := Lib.hid g4
  have g5 := fun w => within_any c.slots 1 4 w
  rw [h5] at g5
  replace g5 := Lib.hid g5
  have g6 := fun w => within_any c.requests 1 4 w
  rw [h6] at g6
  replace g6 := Lib.hid g6
  have g7 := fun w => within_any c.timeout 12 64 w
  rw [h7] at g7
  replace g7 := Lib.hid g7
  clear hq h1 h2 h3 h4 h5 h6 h7
  go_enter Try.func127, Try.ntmps127
  go_upto_region 1 with (refine box_row rfl _ _ rfl _ rfl hinfC.out ?_; intro w0 hbx hs0; replace hs0 := Lib.hid hs0)
  have c0 : w0.cell? ⟨w.heap.size, 0, none⟩ = some (.int .i64 c.nodes) := cfg_cell hbx 0 (by omega)
  have c1 : w0.cell? ⟨w.heap.size, 1, none⟩ = some (.int .i64 c.clients) := cfg_cell hbx 1 (by omega)
  have c2 : w0.cell? ⟨w.heap.size, 2, none⟩ = some (.int .i64 c.window) := cfg_cell hbx 2 (by omega)
  have c3 : w0.cell? ⟨w.heap.size, 3, none⟩ = some (.int .i64 c.buckets) := cfg_cell hbx 3 (by omega)
  have c4 : w0.cell? ⟨w.heap.size, 4, none⟩ = some (.int .i64 c.cap) := cfg_cell hbx 4 (by omega)
  have c5 : w0.cell? ⟨w.heap.size, 5, none⟩ = some (.int .i64 c.slots) := cfg_cell hbx 5 (by omega)
  have c6 : w0.cell? ⟨w.heap.size, 6, none⟩ = some (.int .i64 c.requests) := cfg_cell hbx 6 (by omega)
  have c7 : w0.cell? ⟨w.heap.size, 7, none⟩ = some (.int .i64 c.timeout) := cfg_cell hbx 7 (by omega)
  clear hbx
  go_wp2_with fail
  refine (hqc.out _).mono ?_
  rintro e w1 ⟨rfl, rfl⟩
  go_wp2_with fail
  refine (g1.out _).mono ?_
  rintro e w1 ⟨rfl, rfl⟩
  go_wp2_with fail
  refine (g2.out _).mono ?_
  rintro e w1 ⟨rfl, rfl⟩
  go_wp2_with fail
  refine (g3.out _).mono ?_
  rintro e w1 ⟨rfl, rfl⟩
  go_wp2_with fail
  refine (g4.out _).mono ?_
  rintro e w1 ⟨rfl, rfl⟩
  go_wp2_with fail
  refine (g5.out _).mono ?_
  rintro e w1 ⟨rfl, rfl⟩
  go_wp2_with fail
  refine (g6.out _).mono ?_
  rintro e w1 ⟨rfl, rfl⟩
  go_wp2_with fail
  refine (g7.out _).mono ?_
  rintro e w1 ⟨rfl, rfl⟩
  go_wp2
  go_ret
  exact ⟨rfl, hs0.out⟩
set_option maxRecDepth 100000 in
set_option maxHeartbeats 800000 in
theorem rcg8 (c : Cfg) (w : World) (hq : qgood c.nodes = true) (h1 : inside c.clients 1 8 = true) (h2 : inside c.window 1 64 = true) (h3 : inside c.buckets 1 c.nodes = true) (h4 : inside c.cap 1 16 = true) (h5 : inside c.slots 1 4 = true) (h6 : inside c.requests 1 4 = true) (h7 : inside c.timeout 12 64 = true) (h8 : inside c.penalty 0 8 = false) : Calls Try.prog 127 #[.agg c.cells.toArray] w fun e w' => e = .returned (.int .i64 110) ∧ Same w w' := by
  have hinfC := Lib.hid (cfg_info c)
  have hqc := fun w => rqgood_any c.nodes w
  rw [hq] at hqc
  replace hqc := Lib.hid hqc
  have g1 := fun w => within_any c.clients 1 8 w
  rw [h1] at g1
  replace g1 := Lib.hid g1
  have g2 := fun w => within_any c.window 1 64 w
  rw [h2] at g2
  replace g2 := Lib.hid g2
  have g3 := fun w => within_any c.buckets 1 c.nodes w
  rw [h3] at g3
  replace g3 := Lib.hid g3
  have g4 := fun w => within_any c.cap 1 16 w
  rw [h4] at g4
  replace g4 := Lib.hid g4
  have g5 := fun w => within_any c.slots 1 4 w
  rw [h5] at g5
  replace g5 := Lib.hid g5
  have g6 := fun w => within_any c.requests 1 4 w
  rw [h6] at g6
  replace g6 := Lib.hid g6
  have g7 := fun w => within_any c.timeout 12 64 w
  rw [h7] at g7
  replace g7 := Lib.hid g7
  have g8 := fun w => within_any c.penalty 0 8 w
  rw [h8] at g8
  replace g8 := Lib.hid g8
  clear hq h1 h2 h3 h4 h5 h6 h7 h8
  go_enter Try.func127, Try.ntmps127
  go_upto_region 1 with (refine box_row rfl _ _ rfl _ rfl hinfC.out ?_; intro w0 hbx hs0; replace hs0 := Lib.hid hs0)
  have c0 : w0.cell? ⟨w.heap.size, 0, none⟩ = some (.int .i64 c.nodes) := cfg_cell hbx 0 (by omega)
  have c1 : w0.cell? ⟨w.heap.size, 1, none⟩ = some (.int .i64 c.clients) := cfg_cell hbx 1 (by omega)
  have c2 : w0.cell? ⟨w.heap.size, 2, none⟩ = some (.int .i64 c.window) := cfg_cell hbx 2 (by omega)
  have c3 : w0.cell? ⟨w.heap.size, 3, none⟩ = some (.int .i64 c.buckets) := cfg_cell hbx 3 (by omega)
  have c4 : w0.cell? ⟨w.heap.size, 4, none⟩ = some (.int .i64 c.cap) := cfg_cell hbx 4 (by omega)
  have c5 : w0.cell? ⟨w.heap.size, 5, none⟩ = some (.int .i64 c.slots) := cfg_cell hbx 5 (by omega)
  have c6 : w0.cell? ⟨w.heap.size, 6, none⟩ = some (.int .i64 c.requests) := cfg_cell hbx 6 (by omega)
  have c7 : w0.cell? ⟨w.heap.size, 7, none⟩ = some (.int .i64 c.timeout) := cfg_cell hbx 7 (by omega)
  have c8 : w0.cell? ⟨w.heap.size, 8, none⟩ = some (.int .i64 c.penalty) := cfg_cell hbx 8 (by omega)
  clear hbx
  go_wp2_with fail
  refine (hqc.out _).mono ?_
  rintro e w1 ⟨rfl, rfl⟩
  go_wp2_with fail
  refine (g1.out _).mono ?_
  rintro e w1 ⟨rfl, rfl⟩
  go_wp2_with fail
  refine (g2.out _).mono ?_
  rintro e w1 ⟨rfl, rfl⟩
  go_wp2_with fail
  refine (g3.out _).mono ?_
  rintro e w1 ⟨rfl, rfl⟩
  go_wp2_with fail
  refine (g4.out _).mono ?_
  rintro e w1 ⟨rfl, rfl⟩
  go_wp2_with fail
  refine (g5.out _).mono ?_
  rintro e w1 ⟨rfl, rfl⟩
  go_wp2_with fail
  refine (g6.out _).mono ?_
  rintro e w1 ⟨rfl, rfl⟩
  go_wp2_with fail
  refine (g7.out _).mono ?_
  rintro e w1 ⟨rfl, rfl⟩
  go_wp2_with fail
  refine (g8.out _).mono ?_
  rintro e w1 ⟨rfl, rfl⟩
  go_wp2
  go_ret
  exact ⟨rfl, hs0.out⟩
set_option maxRecDepth 100000 in
set_option maxHeartbeats 800000 in
theorem rcg9 (c : Cfg) (w : World) (hq : qgood c.nodes = true) (h1 : inside c.clients 1 8 = true) (h2 : inside c.window 1 64 = true) (h3 : inside c.buckets 1 c.nodes = true) (h4 : inside c.cap 1 16 = true) (h5 : inside c.slots 1 4 = true) (h6 : inside c.requests 1 4 = true) (h7 : inside c.timeout 12 64 = true) (h8 : inside c.penalty 0 8 = true) (h9 : inside c.last 1 1048576 = false) : Calls Try.prog 127 #[.agg c.cells.toArray] w fun e w' => e = .returned (.int .i64 110) ∧ Same w w' := by
  have hinfC := Lib.hid (cfg_info c)
  have hqc := fun w => rqgood_any c.nodes w
  rw [hq] at hqc
  replace hqc := Lib.hid hqc
  have g1 := fun w => within_any c.clients 1 8 w
  rw [h1] at g1
  replace g1 := Lib.hid g1
  have g2 := fun w => within_any c.window 1 64 w
  rw [h2] at g2
  replace g2 := Lib.hid g2
  have g3 := fun w => within_any c.buckets 1 c.nodes w
  rw [h3] at g3
  replace g3 := Lib.hid g3
  have g4 := fun w => within_any c.cap 1 16 w
  rw [h4] at g4
  replace g4 := Lib.hid g4
  have g5 := fun w => within_any c.slots 1 4 w
  rw [h5] at g5
  replace g5 := Lib.hid g5
  have g6 := fun w => within_any c.requests 1 4 w
  rw [h6] at g6
  replace g6 := Lib.hid g6
  have g7 := fun w => within_any c.timeout 12 64 w
  rw [h7] at g7
  replace g7 := Lib.hid g7
  have g8 := fun w => within_any c.penalty 0 8 w
  rw [h8] at g8
  replace g8 := Lib.hid g8
  have g9 := fun w => within_any c.last 1 1048576 w
  rw [h9] at g9
  replace g9 := Lib.hid g9
  clear hq h1 h2 h3 h4 h5 h6 h7 h8 h9
  go_enter Try.func127, Try.ntmps127
  go_upto_region 1 with (refine box_row rfl _ _ rfl _ rfl hinfC.out ?_; intro w0 hbx hs0; replace hs0 := Lib.hid hs0)
  have c0 : w0.cell? ⟨w.heap.size, 0, none⟩ = some (.int .i64 c.nodes) := cfg_cell hbx 0 (by omega)
  have c1 : w0.cell? ⟨w.heap.size, 1, none⟩ = some (.int .i64 c.clients) := cfg_cell hbx 1 (by omega)
  have c2 : w0.cell? ⟨w.heap.size, 2, none⟩ = some (.int .i64 c.window) := cfg_cell hbx 2 (by omega)
  have c3 : w0.cell? ⟨w.heap.size, 3, none⟩ = some (.int .i64 c.buckets) := cfg_cell hbx 3 (by omega)
  have c4 : w0.cell? ⟨w.heap.size, 4, none⟩ = some (.int .i64 c.cap) := cfg_cell hbx 4 (by omega)
  have c5 : w0.cell? ⟨w.heap.size, 5, none⟩ = some (.int .i64 c.slots) := cfg_cell hbx 5 (by omega)
  have c6 : w0.cell? ⟨w.heap.size, 6, none⟩ = some (.int .i64 c.requests) := cfg_cell hbx 6 (by omega)
  have c7 : w0.cell? ⟨w.heap.size, 7, none⟩ = some (.int .i64 c.timeout) := cfg_cell hbx 7 (by omega)
  have c8 : w0.cell? ⟨w.heap.size, 8, none⟩ = some (.int .i64 c.penalty) := cfg_cell hbx 8 (by omega)
  have c9 : w0.cell? ⟨w.heap.size, 9, none⟩ = some (.int .i64 c.last) := cfg_cell hbx 9 (by omega)
  clear hbx
  go_wp2_with fail
  refine (hqc.out _).mono ?_
  rintro e w1 ⟨rfl, rfl⟩
  go_wp2_with fail
  refine (g1.out _).mono ?_
  rintro e w1 ⟨rfl, rfl⟩
  go_wp2_with fail
  refine (g2.out _).mono ?_
  rintro e w1 ⟨rfl, rfl⟩
  go_wp2_with fail
  refine (g3.out _).mono ?_
  rintro e w1 ⟨rfl, rfl⟩
  go_wp2_with fail
  refine (g4.out _).mono ?_
  rintro e w1 ⟨rfl, rfl⟩
  go_wp2_with fail
  refine (g5.out _).mono ?_
  rintro e w1 ⟨rfl, rfl⟩
  go_wp2_with fail
  refine (g6.out _).mono ?_
  rintro e w1 ⟨rfl, rfl⟩
  go_wp2_with fail
  refine (g7.out _).mono ?_
  rintro e w1 ⟨rfl, rfl⟩
  go_wp2_with fail
  refine (g8.out _).mono ?_
  rintro e w1 ⟨rfl, rfl⟩
  go_wp2_with fail
  refine (g9.out _).mono ?_
  rintro e w1 ⟨rfl, rfl⟩
  go_wp2
  go_ret
  exact ⟨rfl, hs0.out⟩
set_option maxRecDepth 100000 in
set_option maxHeartbeats 800000 in
theorem rcg10 (c : Cfg) (w : World) (hq : qgood c.nodes = true) (h1 : inside c.clients 1 8 = true) (h2 : inside c.window 1 64 = true) (h3 : inside c.buckets 1 c.nodes = true) (h4 : inside c.cap 1 16 = true) (h5 : inside c.slots 1 4 = true) (h6 : inside c.requests 1 4 = true) (h7 : inside c.timeout 12 64 = true) (h8 : inside c.penalty 0 8 = true) (h9 : inside c.last 1 1048576 = true) : Calls Try.prog 127 #[.agg c.cells.toArray] w fun e w' => e = .returned (.int .i64 0) ∧ Same w w' := by
  have hinfC := Lib.hid (cfg_info c)
  have hqc := fun w => rqgood_any c.nodes w
  rw [hq] at hqc
  replace hqc := Lib.hid hqc
  have g1 := fun w => within_any c.clients 1 8 w
  rw [h1] at g1
  replace g1 := Lib.hid g1
  have g2 := fun w => within_any c.window 1 64 w
  rw [h2] at g2
  replace g2 := Lib.hid g2
  have g3 := fun w => within_any c.buckets 1 c.nodes w
  rw [h3] at g3
  replace g3 := Lib.hid g3
  have g4 := fun w => within_any c.cap 1 16 w
  rw [h4] at g4
  replace g4 := Lib.hid g4
  have g5 := fun w => within_any c.slots 1 4 w
  rw [h5] at g5
  replace g5 := Lib.hid g5
  have g6 := fun w => within_any c.requests 1 4 w
  rw [h6] at g6
  replace g6 := Lib.hid g6
  have g7 := fun w => within_any c.timeout 12 64 w
  rw [h7] at g7
  replace g7 := Lib.hid g7
  have g8 := fun w => within_any c.penalty 0 8 w
  rw [h8] at g8
  replace g8 := Lib.hid g8
  have g9 := fun w => within_any c.last 1 1048576 w
  rw [h9] at g9
  replace g9 := Lib.hid g9
  clear hq h1 h2 h3 h4 h5 h6 h7 h8 h9
  go_enter Try.func127, Try.ntmps127
  go_upto_region 1 with (refine box_row rfl _ _ rfl _ rfl hinfC.out ?_; intro w0 hbx hs0; replace hs0 := Lib.hid hs0)
  have c0 : w0.cell? ⟨w.heap.size, 0, none⟩ = some (.int .i64 c.nodes) := cfg_cell hbx 0 (by omega)
  have c1 : w0.cell? ⟨w.heap.size, 1, none⟩ = some (.int .i64 c.clients) := cfg_cell hbx 1 (by omega)
  have c2 : w0.cell? ⟨w.heap.size, 2, none⟩ = some (.int .i64 c.window) := cfg_cell hbx 2 (by omega)
  have c3 : w0.cell? ⟨w.heap.size, 3, none⟩ = some (.int .i64 c.buckets) := cfg_cell hbx 3 (by omega)
  have c4 : w0.cell? ⟨w.heap.size, 4, none⟩ = some (.int .i64 c.cap) := cfg_cell hbx 4 (by omega)
  have c5 : w0.cell? ⟨w.heap.size, 5, none⟩ = some (.int .i64 c.slots) := cfg_cell hbx 5 (by omega)
  have c6 : w0.cell? ⟨w.heap.size, 6, none⟩ = some (.int .i64 c.requests) := cfg_cell hbx 6 (by omega)
  have c7 : w0.cell? ⟨w.heap.size, 7, none⟩ = some (.int .i64 c.timeout) := cfg_cell hbx 7 (by omega)
  have c8 : w0.cell? ⟨w.heap.size, 8, none⟩ = some (.int .i64 c.penalty) := cfg_cell hbx 8 (by omega)
  have c9 : w0.cell? ⟨w.heap.size, 9, none⟩ = some (.int .i64 c.last) := cfg_cell hbx 9 (by omega)
  clear hbx
  go_wp2_with fail
  refine (hqc.out _).mono ?_
  rintro e w1 ⟨rfl, rfl⟩
  go_wp2_with fail
  refine (g1.out _).mono ?_
  rintro e w1 ⟨rfl, rfl⟩
  go_wp2_with fail
  refine (g2.out _).mono ?_
  rintro e w1 ⟨rfl, rfl⟩
  go_wp2_with fail
  refine (g3.out _).mono ?_
  rintro e w1 ⟨rfl, rfl⟩
  go_wp2_with fail
  refine (g4.out _).mono ?_
  rintro e w1 ⟨rfl, rfl⟩
  go_wp2_with fail
  refine (g5.out _).mono ?_
  rintro e w1 ⟨rfl, rfl⟩
  go_wp2_with fail
  refine (g6.out _).mono ?_
  rintro e w1 ⟨rfl, rfl⟩
  go_wp2_with fail
  refine (g7.out _).mono ?_
  rintro e w1 ⟨rfl, rfl⟩
  go_wp2_with fail
  refine (g8.out _).mono ?_
  rintro e w1 ⟨rfl, rfl⟩
  go_wp2_with fail
  refine (g9.out _).mono ?_
  rintro e w1 ⟨rfl, rfl⟩
  go_wp2
  go_ret
  exact ⟨rfl, hs0.out⟩
theorem Cfg.good_eq (c : Cfg) : c.good = (qgood c.nodes && (inside c.clients 1 8 && inside c.window 1 64 && inside c.buckets 1 c.nodes && inside c.cap 1 16 && inside c.slots 1 4 && inside c.requests 1 4 && inside c.timeout 12 64 && inside c.penalty 0 8 && inside c.last 1 1048576)) := by
  simp [Cfg.good, Cfg.spans, List.all_cons, Bool.and_assoc]
theorem rcgood_any (c : Cfg) (w : World) : Calls Try.prog 127 #[.agg c.cells.toArray] w fun e w' => e = .returned (.int .i64 c.err) ∧ Same w w' := by
  unfold Cfg.err
  rw [Cfg.good_eq]
  cases hq : qgood c.nodes
  · exact rcg0 c w hq
  cases h1 : inside c.clients 1 8
  · exact rcg1 c w hq h1
  cases h2 : inside c.window 1 64
  · exact rcg2 c w hq h1 h2
  cases h3 : inside c.buckets 1 c.nodes
  · exact rcg3 c w hq h1 h2 h3
  cases h4 : inside c.cap 1 16
  · exact rcg4 c w hq h1 h2 h3 h4
  cases h5 : inside c.slots 1 4
  · exact rcg5 c w hq h1 h2 h3 h4 h5
  cases h6 : inside c.requests 1 4
  · exact rcg6 c w hq h1 h2 h3 h4 h5 h6
  cases h7 : inside c.timeout 12 64
  · exact rcg7 c w hq h1 h2 h3 h4 h5 h6 h7
  cases h8 : inside c.penalty 0 8
  · exact rcg8 c w hq h1 h2 h3 h4 h5 h6 h7 h8
  cases h9 : inside c.last 1 1048576
  · exact rcg9 c w hq h1 h2 h3 h4 h5 h6 h7 h8 h9
  exact rcg10 c w hq h1 h2 h3 h4 h5 h6 h7 h8 h9
/-- May config and epoch be? -/
def Cfg.may (c : Cfg) (n : Int) : Bool := c.good && (decide (1 ≤ n) && decide (n ≤ 1048576))
theorem Cfg.err_eq (c : Cfg) : (c.err == 0) = c.good := by
  unfold Cfg.err
  cases c.good <;> rfl
set_option maxRecDepth 100000 in
set_option maxHeartbeats 400000 in
theorem may_any (c : Cfg) (n : Int) (w : World) : Calls Try.prog 171 #[.agg c.cells.toArray, .int .i64 n] w fun e w' => e = .returned (.bool (c.may n)) ∧ Same w w' := by
  have hinfC := Lib.hid (cfg_info c)
  have hg := Lib.hid (fun w => cgood_any c w)
  have he := c.err_eq
  unfold Cfg.may
  obtain ⟨R, hR⟩ : ∃ R, R = c.err := ⟨_, rfl⟩
  rw [← hR] at hg he
  cases hc : c.good
  · rw [hc] at he
    clear hc hR
    go_enter Try.func171, Try.ntmps171
    go_upto_region 1 with (refine box_row rfl _ _ rfl _ rfl hinfC.out ?_; intro w0 hbx hs0; replace hs0 := Lib.hid hs0; replace hbx := Lib.hid hbx)
    go_wp2_with (refine load_row rfl _ _ rfl w.heap.size rfl _ _ _ _ hbx.out Try.underlying68 rfl hinfC.out ?_)
    refine (hg.out _).mono ?_
    rintro e w1 ⟨rfl, hs1⟩
    go_wp2
    go_ret
    exact ⟨rfl, hs0.out.trans hs1⟩
  · rw [hc] at he
    clear hc hR
    by_cases h1 : 1 ≤ n
    · by_cases h2 : n ≤ 1048576
      all_goals
        go_enter Try.func171, Try.ntmps171
        go_upto_region 1 with (refine box_row rfl _ _ rfl _ rfl hinfC.out ?_; intro w0 hbx hs0; replace hs0 := Lib.hid hs0; replace hbx := Lib.hid hbx)
        go_wp2_with (refine load_row rfl _ _ rfl w.heap.size rfl _ _ _ _ hbx.out Try.underlying68 rfl hinfC.out ?_)
        refine (hg.out _).mono ?_
        rintro e w1 ⟨rfl, hs1⟩
        go_wp2
        go_ret
        exact ⟨by simp; omega, hs0.out.trans hs1⟩
    · go_enter Try.func171, Try.ntmps171
      go_upto_region 1 with (refine box_row rfl _ _ rfl _ rfl hinfC.out ?_; intro w0 hbx hs0; replace hs0 := Lib.hid hs0; replace hbx := Lib.hid hbx)
      go_wp2_with (refine load_row rfl _ _ rfl w.heap.size rfl _ _ _ _ hbx.out Try.underlying68 rfl hinfC.out ?_)
      refine (hg.out _).mono ?_
      rintro e w1 ⟨rfl, hs1⟩
      go_wp2
      go_ret
      exact ⟨by simp; omega, hs0.out.trans hs1⟩
set_option maxRecDepth 100000 in
set_option maxHeartbeats 400000 in
theorem rmay_any (c : Cfg) (n : Int) (w : World) : Calls Try.prog 174 #[.agg c.cells.toArray, .int .i64 n] w fun e w' => e = .returned (.bool (c.may n)) ∧ Same w w' := by
  have hinfC := Lib.hid (cfg_info c)
  have hg := Lib.hid (fun w => rcgood_any c w)
  have he := c.err_eq
  have hw := Lib.hid (fun w => within_any n 1 1048576 w)
  unfold Cfg.may
  rw [show (decide (1 ≤ n) && decide (n ≤ 1048576)) = inside n 1 1048576 from rfl]
  obtain ⟨R, hR⟩ : ∃ R, R = c.err := ⟨_, rfl⟩
  rw [← hR] at hg he
  cases hc : c.good
  all_goals
    rw [hc] at he
    clear hc hR
    go_enter Try.func174, Try.ntmps174
    go_upto_region 1 with (refine box_row rfl _ _ rfl _ rfl hinfC.out ?_; intro w0 hbx hs0; replace hs0 := Lib.hid hs0; replace hbx := Lib.hid hbx)
    go_wp2_with (refine load_row rfl _ _ rfl w.heap.size rfl _ _ _ _ hbx.out Try.underlying68 rfl hinfC.out ?_)
    refine (hg.out _).mono ?_
    rintro e w1 ⟨rfl, hs1⟩
    first
      | (go_wp2_with fail
         refine (hw.out _).mono ?_
         rintro e w2 ⟨rfl, rfl⟩
         go_wp2
         go_ret
         exact ⟨rfl, hs0.out.trans hs1⟩)
      | (go_wp2
         go_ret
         exact ⟨rfl, hs0.out.trans hs1⟩)
def penOf (penal : List Int) (n : Nat) : Int := penal.getD n 0
set_option maxRecDepth 100000 in
set_option maxHeartbeats 400000 in
theorem penalty_any (ao : Option Addr) (len cap : Nat) (penal : List Int) (n : Nat) (w : World) (hsl : Sl w 1 ao len cap (iv penal)) :
    Calls Try.prog 189 #[.slice ao len cap, .int .i64 n] w fun e w' => e = .returned (.int .i64 (penOf penal n)) ∧ w = w' := by
  have hl : penal.length = len := by have := hsl.len; rw [iv_length] at this; omega
  by_cases h : n < len
  · obtain ⟨bk, off, rfl, _, hcell⟩ := hsl.at (by intro h2; rw [iv, List.map_eq_nil_iff] at h2; rw [h2] at hl; simp at hl; omega)
    have cc := hcell n _ (iv_get (by omega))
    have hp : penOf penal n = penal[n]'(by omega) := by simp [penOf, List.getD, show n < penal.length by omega]
    rw [← hp] at cc
    obtain ⟨P, hP⟩ : ∃ P, P = penOf penal n := ⟨_, rfl⟩
    rw [← hP] at cc ⊢
    have hcap := hsl.cap
    clear hcell hp hP hsl hl
    go_enter Try.func189, Try.ntmps189
    go_wp2
    go_ret
    exact ⟨rfl, rfl⟩
  · have hp : penOf penal n = 0 := by simp [penOf, List.getD, show penal.length ≤ n by omega]
    rw [hp]
    clear hp hl hsl
    go_enter Try.func189, Try.ntmps189
    go_wp2
    go_ret
    exact ⟨rfl, rfl⟩
set_option maxRecDepth 100000 in
set_option maxHeartbeats 400000 in
theorem rpenalty_any (ao : Option Addr) (len cap : Nat) (penal : List Int) (n : Nat) (w : World) (hsl : Sl w 1 ao len cap (iv penal)) :
    Calls Try.prog 193 #[.slice ao len cap, .int .i64 n] w fun e w' => e = .returned (.int .i64 (penOf penal n)) ∧ w = w' := by
  have hl : penal.length = len := by have := hsl.len; rw [iv_length] at this; omega
  by_cases h : n < len
  · obtain ⟨bk, off, rfl, _, hcell⟩ := hsl.at (by intro h2; rw [iv, List.map_eq_nil_iff] at h2; rw [h2] at hl; simp at hl; omega)
    have cc := hcell n _ (iv_get (by omega))
    have hp : penOf penal n = penal[n]'(by omega) := by simp [penOf, List.getD, show n < penal.length by omega]
    rw [← hp] at cc
    obtain ⟨P, hP⟩ : ∃ P, P = penOf penal n := ⟨_, rfl⟩
    rw [← hP] at cc ⊢
    have hcap := hsl.cap
    clear hcell hp hP hsl hl
    go_enter Try.func193, Try.ntmps193
    go_wp2
    go_ret
    exact ⟨rfl, rfl⟩
  · have hp : penOf penal n = 0 := by simp [penOf, List.getD, show penal.length ≤ n by omega]
    rw [hp]
    clear hp hl hsl
    go_enter Try.func193, Try.ntmps193
    go_wp2
    go_ret
    exact ⟨rfl, rfl⟩
end Go.Proofs.Ytmacgmmjgdmleaa
