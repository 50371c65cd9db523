/-
  A window read by both.
-/
import Derived.Test.YtkhloanpdehegaaDoorWinG
import Derived.Deep.DeepCutAuto
namespace Go.Proofs.YtkhloanpdehegaaDoor
open Go Go.RowKit
set_option linter.unusedSimpArgs false
set_option linter.unusedVariables false

theorem rNum_most (s : List UInt8 × Nat) (m : Int) (h : 0 ≤ m) : ((Num.rNum s m).1 : Int) ≤ m := by
  unfold Num.rNum
  split
  · simpa using h
  · split
    split
    · simpa using h
    · split
      · simpa using h
      · simp only
        omega
/-- A window read: what it is, and what is left. -/
def wGot (s : List UInt8 × Nat) : Win × (List UInt8 × Nat) :=
  let a := Num.rNum s 1099511627777
  let b := Num.rNum a.2 4294967295
  let c := Num.rNum b.2 4294967295
  (if c.2.2 = 0 ∧ Win.good ⟨(a.1 : Int), b.1 * 4294967296 + c.1⟩ = true then ⟨(a.1 : Int), b.1 * 4294967296 + c.1⟩ else Win.zero, c.2)
def RetWin (w : World) (rb db : Nat) (x : Win × (List UInt8 × Nat)) (e : Ending) (w' : World) : Prop := e = .returned (.agg #[.int .i64 x.1.base, .int .u64 (x.1.bits : Nat)]) ∧ Rdr w' rb db x.2 ∧ Keep (· = rb) w w'
def RRetWin (w : World) (rb db : Nat) (x : Win × (List UInt8 × Nat)) (e : Ending) (w' : World) : Prop := e = .returned (.agg #[.int .i64 x.1.base, .int .u64 (x.1.bits : Nat)]) ∧ RRdr w' rb db x.2 ∧ Keep (· = rb) w w'
theorem Keep.rowW {p : Nat → Prop} {w w' : World} {b : Nat} {o : Obj} (h : Keep p w w') (hb : w.heap[b]? = some o) (hp : ¬ p b) : w'.heap[b]? = some o := (h.block b (blk_lt hb) hp).trans hb
set_option maxRecDepth 100000 in
set_option maxHeartbeats 3200000 in
theorem rwget_any (rb db : Nat) (s : List UInt8 × Nat) (w : World) (h : RRdr w rb db s) : Calls Tryd.prog 39 #[.pointer (some ⟨rb, 0, none⟩)] w (RRetWin w rb db (wGot s)) := by
  have q1 := fun w h => rnum_any rb db s 1099511627777 w h
  have q2 := fun w h => rnum_any rb db (Num.rNum s 1099511627777).2 4294967295 w h
  have q3 := fun w h => rnum_any rb db (Num.rNum (Num.rNum s 1099511627777).2 4294967295).2 4294967295 w h
  have m1 := rNum_most s 1099511627777 (by omega)
  have m2 := rNum_most (Num.rNum s 1099511627777).2 4294967295 (by omega)
  have m3 := rNum_most (Num.rNum (Num.rNum s 1099511627777).2 4294967295).2 4294967295 (by omega)
  obtain ⟨X, hX⟩ : ∃ X, X = wGot s := ⟨_, rfl⟩
  rw [← hX]
  unfold wGot at hX
  simp only at hX
  obtain ⟨A, hA⟩ : ∃ A, A = Num.rNum s 1099511627777 := ⟨_, rfl⟩
  rw [← hA] at q1 q2 q3 m1 m2 m3 hX
  obtain ⟨C, hC⟩ : ∃ C, C = Num.rNum A.2 4294967295 := ⟨_, rfl⟩
  rw [← hC] at q2 q3 m2 m3 hX
  obtain ⟨E, hE⟩ : ∃ E, E = Num.rNum C.2 4294967295 := ⟨_, rfl⟩
  rw [← hE] at q3 m3 hX
  obtain ⟨n1, s1⟩ := A
  obtain ⟨n2, s2⟩ := C
  obtain ⟨n3, s3⟩ := E
  simp only at q1 q2 q3 m1 m2 m3 hX
  obtain ⟨M, hM⟩ : ∃ M, M = n2 * 4294967296 + n3 := ⟨_, rfl⟩
  rw [← hM] at hX
  obtain ⟨P, hP⟩ : ∃ P, P = n2 * 4294967296 := ⟨_, rfl⟩
  have hmul : (n2 : Int) * 4294967296 = (P : Int) := by omega
  have hadd : (P : Int) + (n3 : Int) = (M : Int) := by omega
  have hPl : P ≤ 18446744069414584320 := by omega
  have hMl : M < 18446744073709551616 := by omega
  have hG := fun w => rwgood_any (n1 : Int) M w hMl
  obtain ⟨G, hGe⟩ : ∃ G, G = Win.good ⟨(n1 : Int), M⟩ := ⟨_, rfl⟩
  rw [← hGe] at hG hX
  have hS3 : X.2 = s3 := by rw [hX]
  have hX1 : X.1 = if s3.2 = 0 ∧ G = true then ⟨(n1 : Int), M⟩ else Win.zero := by rw [hX]
  have hinf := Lib.hid hinfW
  obtain ⟨l1, l2, l3⟩ := h.lt
  obtain ⟨B, hBe⟩ : ∃ b, b = w.heap.size := ⟨_, rfl⟩
  have nrb : ¬ rb = B := by omega
  have ndb : ¬ db = B := by omega
  have nB : ¬ B = rb := by omega
  unfold RRetNum at q1 q2 q3
  clear hA hC hE hX hM hP hGe l3
  replace hS3 := Lib.hid hS3
  replace hX1 := Lib.hid hX1
  replace q1 := Lib.hid q1
  replace q2 := Lib.hid q2
  replace q3 := Lib.hid q3
  replace hG := Lib.hid hG
  replace hBe := Lib.hid hBe
  replace h := Lib.hid h
  go_enter Tryd.func39, Tryd.ntmps39
  go_upto_region 1 with fail
  obtain ⟨w1, hw1⟩ : ∃ x, x = w.alloc (.cells #[.int .i64 0, .int .u64 0] 38) := ⟨_, rfl⟩
  have hz := heap_alloc_new w (.cells #[.int .i64 0, .int .u64 0] 38)
  have hs1 : Same w w1 := by rw [hw1]; exact Same.refl.alloc _
  rw [← hw1] at hz ⊢
  rw [← hBe.out] at hz ⊢
  clear hw1
  have hr1 := Lib.hid (h.out.same hs1)
  have hk1 := Lib.hid (Keep.of_same (p := (· = rb)) hs1)
  replace hz := Lib.hid hz
  clear hs1 h
  go_wp2_with fail
  refine (q1.out _ hr1.out).mono ?_
  rintro e w2 ⟨rfl, hr2, hk2⟩
  replace hz := Lib.hid (hk2.rowW hz.out nB)
  replace hk1 := Lib.hid (hk1.out.trans hk2 (fun _ _ h => h))
  clear hk2 hr1 q1
  replace hr2 := Lib.hid hr2
  go_wp2_with fail
  refine (q2.out _ hr2.out).mono ?_
  rintro e w3 ⟨rfl, hr3, hk2⟩
  replace hz := Lib.hid (hk2.rowW hz.out nB)
  replace hk1 := Lib.hid (hk1.out.trans hk2 (fun _ _ h => h))
  clear hk2 hr2 q2
  replace hr3 := Lib.hid hr3
  go_wp2_with fail
  refine (q3.out _ hr3.out).mono ?_
  rintro e w4 ⟨rfl, hr4, hk2⟩
  replace hz := Lib.hid (hk2.rowW hz.out nB)
  replace hk1 := Lib.hid (hk1.out.trans hk2 (fun _ _ h => h))
  clear hk2 hr3 q3
  go_upto_region 5 with fail
  obtain ⟨w5, hw5⟩ : ∃ x, x = w4.alloc (.cells #[.int .i64 n1, .int .u64 M] 38) := ⟨_, rfl⟩
  have hv := heap_alloc_new w4 (.cells #[.int .i64 n1, .int .u64 M] 38)
  have hs5 : Same w4 w5 := by rw [hw5]; exact Same.refl.alloc _
  rw [← hw5] at hv ⊢
  clear hw5
  have zz := blk_lt hz.out
  replace hz := Lib.hid (hs5.row hz.out)
  have hk5 := Lib.hid (hk1.out.trans (Keep.of_same (p := fun _ => False) hs5) (fun _ _ h => h.elim))
  have hr5' := hr4.same hs5
  have cE := hr5'.err
  have hr5 := Lib.hid hr5'
  replace hv := Lib.hid hv
  clear hr5' hr4 hs5 hk1
  by_cases hE0 : s3.2 = 0
  · rw [hE0] at cE
    cases G
    · have hXe : X.1 = Win.zero := by rw [hX1.out, if_neg (by simp)]
      clear hX1 hE0
      replace hXe := Lib.hid hXe
      go_wp2_with (refine load_row rfl _ _ rfl w4.heap.size rfl _ _ _ _ hv.out Tryd.underlying38 rfl hinf.out ?_)
      refine (hG.out _).mono ?_
      rintro e w6 ⟨rfl, hs6⟩
      replace hz := Lib.hid (hs6.row hz.out)
      replace hk5 := Lib.hid (hk5.out.trans (Keep.of_same (p := fun _ => False) hs6) (fun _ _ h => h.elim))
      replace hr5 := Lib.hid (hr5.out.same hs6)
      clear hs6 cE hv
      go_wp2_with (refine store_row rfl _ _ _ rfl B #[.int .i64 0, .int .u64 0] rfl rfl _ _ hz.out hinf.out rfl (by simp [Value.oneCell']) ?_; intro w9 hb9 hk9; replace hb9 := Lib.hid hb9; replace hk9 := Lib.hid hk9)
      refine bodyPost_ret (v := .agg #[.int .i64 0, .int .u64 (0 : Nat)]) (results_row (p := 2) (ty := 38) rfl _ _ B _ _ _ _ rfl hb9.out Tryd.underlying38 rfl hinf.out) rfl ?_
      exact ⟨by first | (rw [hXe.out]; done) | (rw [hXe.out]; rfl), by rw [hS3.out]; exact hr5.out.keep hk9.out nrb ndb, hk5.out.trans hk9.out (fun x hx hv => by have := hBe.out; omega)⟩
    · have hXe : X.1 = ⟨(n1 : Int), M⟩ := by rw [hX1.out, if_pos ⟨hE0, rfl⟩]
      clear hX1 hE0
      replace hXe := Lib.hid hXe
      go_wp2_with (refine load_row rfl _ _ rfl w4.heap.size rfl _ _ _ _ hv.out Tryd.underlying38 rfl hinf.out ?_)
      refine (hG.out _).mono ?_
      rintro e w6 ⟨rfl, hs6⟩
      replace hz := Lib.hid (hs6.row hz.out)
      replace hv := Lib.hid (hs6.row hv.out)
      replace hk5 := Lib.hid (hk5.out.trans (Keep.of_same (p := fun _ => False) hs6) (fun _ _ h => h.elim))
      replace hr5 := Lib.hid (hr5.out.same hs6)
      clear hs6 cE
      go_wp2_with (first | (refine load_row rfl _ _ rfl w4.heap.size rfl _ _ _ _ hv.out Tryd.underlying38 rfl hinf.out ?_) | (refine store_row rfl _ _ _ rfl B #[.int .i64 n1, .int .u64 M] rfl rfl _ _ hz.out hinf.out rfl (by simp [Value.oneCell']) ?_; intro w9 hb9 hk9; replace hb9 := Lib.hid hb9; replace hk9 := Lib.hid hk9))
      refine bodyPost_ret (v := .agg #[.int .i64 (n1 : Int), .int .u64 (M : Nat)]) (results_row (p := 2) (ty := 38) rfl _ _ B _ _ _ _ rfl hb9.out Tryd.underlying38 rfl hinf.out) rfl ?_
      exact ⟨by first | (rw [hXe.out]; done) | (rw [hXe.out]; rfl), by rw [hS3.out]; exact hr5.out.keep hk9.out nrb ndb, hk5.out.trans hk9.out (fun x hx hv => by have := hBe.out; omega)⟩
  · have hXe : X.1 = Win.zero := by rw [hX1.out, if_neg (fun h => hE0 h.1)]
    have hne : (((s3.2 : Nat) : Int) != 0) = true := by simp; omega
    clear hX1 hE0
    replace hXe := Lib.hid hXe
    go_wp2_with (refine store_row rfl _ _ _ rfl B #[.int .i64 0, .int .u64 0] rfl rfl _ _ hz.out hinf.out rfl (by simp [Value.oneCell']) ?_; intro w9 hb9 hk9; replace hb9 := Lib.hid hb9; replace hk9 := Lib.hid hk9)
    refine bodyPost_ret (v := .agg #[.int .i64 0, .int .u64 (0 : Nat)]) (results_row (p := 2) (ty := 38) rfl _ _ B _ _ _ _ rfl hb9.out Tryd.underlying38 rfl hinf.out) rfl ?_
    exact ⟨by first | (rw [hXe.out]; done) | (rw [hXe.out]; rfl), by rw [hS3.out]; exact hr5.out.keep hk9.out nrb ndb, hk5.out.trans hk9.out (fun x hx hv => by have := hBe.out; omega)⟩
/-- A number is told, and the reader stands so. -/
def isRN (rb db n : Nat) (s : List UInt8 × Nat) : Value → World → Prop := fun v w => v = .int .i64 (n : Nat) ∧ Rdr w rb db s
theorem isRN_stable (rb db n : Nat) (s : List UInt8 × Nat) : Stable Same (isRN rb db n s) := fun _ _ _ k ⟨h, h1⟩ => ⟨h, h1.same k⟩
theorem or_low (x y : Nat) (hx : x < 4294967296) (hy : y < 4294967296) : bits BinOp.or IntKind.u64 ((x : Int) * 4294967296) (y : Int) = ((x * 4294967296 + y : Nat) : Int) := by
  have e1 : (x : Int) * 4294967296 = ((x * 4294967296 : Nat) : Int) := by omega
  have e2 : x * 4294967296 ||| y = x * 4294967296 + y := by
    have := Nat.shiftLeft_add_eq_or_of_lt (i := 32) (b := y) (by omega) x
    rw [Nat.shiftLeft_eq] at this
    exact this.symm
  rw [e1, bits_or_u64_nat _ _ (by omega) (by omega), e2]
set_option maxRecDepth 100000 in
set_option maxHeartbeats 6400000 in
theorem wget_any (rb db : Nat) (s : List UInt8 × Nat) (w : World) (h : Rdr w rb db s) : Calls Tryd.prog 38 #[.pointer (some ⟨rb, 0, none⟩)] w (RetWin w rb db (wGot s)) := by
  have q1 := fun w h => num_any rb db s 1099511627777 w h
  have q2 := fun w h => num_any rb db (Num.rNum s 1099511627777).2 4294967295 w h
  have q3 := fun w h => num_any rb db (Num.rNum (Num.rNum s 1099511627777).2 4294967295).2 4294967295 w h
  have m1 := rNum_most s 1099511627777 (by omega)
  have m2 := rNum_most (Num.rNum s 1099511627777).2 4294967295 (by omega)
  have m3 := rNum_most (Num.rNum (Num.rNum s 1099511627777).2 4294967295).2 4294967295 (by omega)
  obtain ⟨X, hX⟩ : ∃ X, X = wGot s := ⟨_, rfl⟩
  rw [← hX]
  unfold wGot at hX
  simp only at hX
  obtain ⟨A, hA⟩ : ∃ A, A = Num.rNum s 1099511627777 := ⟨_, rfl⟩
  rw [← hA] at q1 q2 q3 m1 m2 m3 hX
  obtain ⟨C, hC⟩ : ∃ C, C = Num.rNum A.2 4294967295 := ⟨_, rfl⟩
  rw [← hC] at q2 q3 m2 m3 hX
  obtain ⟨E, hE⟩ : ∃ E, E = Num.rNum C.2 4294967295 := ⟨_, rfl⟩
  rw [← hE] at q3 m3 hX
  obtain ⟨n1, s1⟩ := A
  obtain ⟨n2, s2⟩ := C
  obtain ⟨n3, s3⟩ := E
  simp only at q1 q2 q3 m1 m2 m3 hX
  obtain ⟨M, hM⟩ : ∃ M, M = n2 * 4294967296 + n3 := ⟨_, rfl⟩
  rw [← hM] at hX
  have hMl : M < 18446744073709551616 := by omega
  have hG := fun w => wgood_any (n1 : Int) M w hMl
  have hg0 : Win.good ⟨0, 0⟩ = false := by decide +kernel
  obtain ⟨G, hGe⟩ : ∃ G, G = Win.good ⟨(n1 : Int), M⟩ := ⟨_, rfl⟩
  have hq0 : ∀ w : World, G = true → (binOp .eql 38 (.agg #[.int .i64 n1, .int .u64 (M : Nat)]) (.agg #[.int .i64 0, .int .u64 0])).run Tryd.prog w = .ok (.bool false) w := by
    intro w hGt
    have h1 : (Lit.int .i64 (n1 : Int)).wf = true := by simp [Lit.wf, IntKind.min, IntKind.max, IntKind.signed, IntKind.bits]; omega
    have h2 : (Lit.int .u64 (M : Int)).wf = true := by simp [Lit.wf, IntKind.min, IntKind.max, IntKind.signed, IntKind.bits]; omega
    have := win_eql (n1 : Int) 0 M 0 h1 h2 (by decide) (by decide) w
    have e : ¬ ((n1 : Int) = 0 ∧ M = 0) := by
      rintro ⟨a, b⟩
      rw [hGe, a, b, hg0] at hGt
      cases hGt
    rw [decide_eq_false e] at this
    exact this
  rw [← hGe] at hG hX
  have hS3 : X.2 = s3 := by rw [hX]
  have hX1 : X.1 = if s3.2 = 0 ∧ G = true then ⟨(n1 : Int), M⟩ else Win.zero := by rw [hX]
  have hinf := Lib.hid hinfW
  have hgd := Lib.hid win_guard
  obtain ⟨l1, l2, l3⟩ := h.lt
  obtain ⟨B, hBe⟩ : ∃ b, b = w.heap.size := ⟨_, rfl⟩
  have nrb : ¬ rb = B := by omega
  have ndb : ¬ db = B := by omega
  have nB : ¬ B = rb := by omega
  unfold RetNum at q1 q2 q3
  -- the two rounds: what stands ahead, what is read, and what is left
  obtain ⟨Bk, hBk⟩ : ∃ f : Nat → Nat, f 0 = 0 ∧ f 1 = n2 ∧ f 2 = M := ⟨fun k => if k = 0 then 0 else if k = 1 then n2 else M, rfl, rfl, rfl⟩
  obtain ⟨Nk, hNk⟩ : ∃ f : Nat → Nat, f 0 = n2 ∧ f 1 = n3 := ⟨fun k => if k = 0 then n2 else n3, rfl, rfl⟩
  obtain ⟨Sk, hSk⟩ : ∃ f : Nat → List UInt8 × Nat, f 0 = s1 ∧ f 1 = s2 ∧ f 2 = s3 := ⟨fun k => if k = 0 then s1 else if k = 1 then s2 else s3, rfl, rfl, rfl⟩
  have hround : ∀ k, k < 2 → Bk k < 4294967296 ∧ Nk k < 4294967296 ∧ bits BinOp.or IntKind.u64 ((Bk k : Int) * 4294967296) (Nk k : Int) = (Bk (k + 1) : Nat) ∧ (∀ w, Rdr w rb db (Sk k) → Calls Tryd.prog 56 #[.pointer (some ⟨rb, 0, none⟩), .int .i64 4294967295] w (fun e w' => e = .returned (.int .i64 (Nk k : Nat)) ∧ Rdr w' rb db (Sk (k + 1)) ∧ Keep (· = rb) w w')) := by
    intro k hk
    have hk2 : k = 0 ∨ k = 1 := by omega
    rcases hk2 with rfl | rfl
    · rw [hBk.1, hBk.2.1, hNk.1, hSk.1, hSk.2.1]
      refine ⟨by omega, by omega, ?_, q2⟩
      have := or_low 0 n2 (by omega) (by omega)
      simpa using this
    · rw [hBk.2.1, hBk.2.2, hNk.2, hSk.2.1, hSk.2.2]
      refine ⟨by omega, by omega, ?_, q3⟩
      rw [or_low n2 n3 (by omega) (by omega), hM]
  have hB0 := hBk.1
  have hB2 := hBk.2.2
  have hS0 := hSk.1
  have hS2 := hSk.2.2
  clear hA hC hE hX hM hGe l3 q2 q3 hBk hNk hSk hg0 m2 m3
  replace hS3 := Lib.hid hS3
  replace hX1 := Lib.hid hX1
  replace q1 := Lib.hid q1
  replace hround := Lib.hid hround
  replace hB0 := Lib.hid hB0
  replace hB2 := Lib.hid hB2
  replace hS0 := Lib.hid hS0
  replace hS2 := Lib.hid hS2
  replace hG := Lib.hid hG
  replace hq0 := Lib.hid hq0
  replace hBe := Lib.hid hBe
  replace h := Lib.hid h
  go_enter Tryd.func38, Tryd.ntmps38
  go_upto_region 1 with fail
  obtain ⟨w1, hw1⟩ : ∃ x, x = w.alloc (.cells #[.int .i64 0, .int .u64 0] 38) := ⟨_, rfl⟩
  have hz := heap_alloc_new w (.cells #[.int .i64 0, .int .u64 0] 38)
  have hs1 : Same w w1 := by rw [hw1]; exact Same.refl.alloc _
  rw [← hw1] at hz ⊢
  rw [← hBe.out] at hz ⊢
  clear hw1
  have hr1 := Lib.hid (h.out.same hs1)
  have hk1 := Lib.hid (Keep.of_same (p := (· = rb)) hs1)
  replace hz := Lib.hid hz
  clear hs1 h
  go_wp2_with fail
  refine (q1.out _ hr1.out).mono ?_
  rintro e w2 ⟨rfl, hr2, hk2⟩
  replace hz := Lib.hid (hk2.rowW hz.out nB)
  replace hk1 := Lib.hid (hk1.out.trans hk2 (fun _ _ h => h))
  clear hk2 hr1 q1
  replace hr2 := Lib.hid hr2
  go_upto_region 2 with fail
  obtain ⟨w3, hw3⟩ : ∃ x, x = w2.alloc (.cells #[.int .i64 n1, .int .u64 0] 38) := ⟨_, rfl⟩
  have hv := heap_alloc_new w2 (.cells #[.int .i64 n1, .int .u64 0] 38)
  have hs3 : Same w2 w3 := by rw [hw3]; exact Same.refl.alloc _
  rw [← hw3] at hv ⊢
  clear hw3
  have l2' := hr2.out.lt
  have zz := blk_lt hz.out
  obtain ⟨g, hge⟩ : ∃ b, b = w2.heap.size := ⟨_, rfl⟩
  have grb : ¬ g = rb := by omega
  have gB : ¬ B = g := by omega
  have gdb : ¬ db = g := by omega
  have grb2 : ¬ rb = g := by omega
  have hgw : w.heap.size ≤ g := by have := hk1.out.size; omega
  rw [← hge] at hv ⊢
  replace hz := Lib.hid (hs3.row hz.out)
  have hk3 := Lib.hid (hk1.out.trans (Keep.of_same (p := fun _ => False) hs3) (fun _ _ h => h.elim))
  have hr3 := Lib.hid (hr2.out.same hs3)
  clear hr2 hk1 hs3 l2' zz hge
  replace hv := Lib.hid hv
  go_wp2
  go_loopw [7] (fun i wr => ∃ k : Nat, k ≤ 2 ∧ i = .int .i64 k ∧ wr.heap[g]? = some (.cells #[.int .i64 n1, .int .u64 (Bk k : Nat)] 38 (0, 0)) ∧ wr.heap[B]? = some (.cells #[.int .i64 0, .int .u64 0] 38 (0, 0)) ∧ Rdr wr rb db (Sk k) ∧ Keep (· = rb) w wr) (fun i _ => 2 - (intOf i).toNat)
  case atStart => exact ⟨0, by omega, rfl, by rw [hB0.out]; exact hv.out, hz.out, by rw [hS0.out]; exact hr3.out, hk3.out⟩
  case round =>
    obtain ⟨k, hk, rfl, hvk, hzk, hrk, hkk⟩ := hrel
    clear hv hz hr3 hk3
    by_cases hlt : k < 2
    · obtain ⟨b1, b2, hor, hc⟩ := hround.out k hlt
      have c1 : wr.cell? ⟨g, 1, none⟩ = some (.int .u64 (Bk k : Nat)) := blk_cell hvk 1
      obtain ⟨x, hx⟩ : ∃ x, x = Bk k := ⟨_, rfl⟩
      obtain ⟨y, hy⟩ : ∃ x, x = Nk k := ⟨_, rfl⟩
      obtain ⟨z, hz⟩ : ∃ x, x = Bk (k + 1) := ⟨_, rfl⟩
      obtain ⟨S', hS'⟩ : ∃ x, x = Sk (k + 1) := ⟨_, rfl⟩
      rw [← hx] at b1 hor c1 hvk
      rw [← hy] at b2 hor hc
      rw [← hz] at hor
      rw [← hS'] at hc
      have hsh : IntKind.u64.wrap ((x : Int) * 4294967296) = (x : Int) * 4294967296 := by rw [IntKind.wrap_u64]; omega
      clear hx hy
      replace hz := Lib.hid hz
      replace hS' := Lib.hid hS'
      replace hc := Lib.hid hc
      replace hor := Lib.hid hor
      replace hsh := Lib.hid hsh
      replace c1 := Lib.hid c1
      replace hvk := Lib.hid hvk
      replace hzk := Lib.hid hzk
      replace hrk := Lib.hid hrk
      replace hkk := Lib.hid hkk
      go_upto_region 4 with fail
      refine wp_region_mut (by kernel_rfl) [(9, 0), (10, 1), (11, 2), (12, 3), (13, 4), (14, 5), (15, 6)] [(4, (Keep (fun x => x = rb)))] [(4, [4]), (1000, [4])] [0, 1, 2, 3, 4, 5, 6] [[], [0], [1], [], [3, 1000], [4], [2, 5]] Same (Keep (fun x => x = rb) wr) [(fun w => Rdr w rb db (Sk k))] [isV (.pointer (some ⟨g, 1, none⟩)), isV (.int .u64 x), isV (.int .u64 ((x : Int) * 4294967296)), isV (.pointer (some ⟨rb, 0, none⟩)), isRN rb db y S', isV (.int .u64 y), isV (.int .u64 z)] (Keep.drew) (by intro g hg; simp only [List.mem_cons, List.not_mem_nil, or_false] at hg; obtain rfl := hg; exact (hrk.out.same Same.refl.drew)) (fun _ _ h k => h.trans (Keep.of_same (p := fun _ => False) k) (fun _ _ h => h.elim)) (by intro g hg; simp only [List.mem_cons, List.not_mem_nil, or_false] at hg; obtain rfl := hg; exact (fun _ _ h k => h.trans k (fun x _ hx => hx))) (by simp [isV_stable, isB_stable, isAny_stable, isRN_stable]) (by intro g hg; simp only [List.mem_cons, List.not_mem_nil, or_false] at hg; obtain rfl := hg; exact (fun _ _ k h => h.same k)) (by simp [killsOf, List.zipIdx_cons, isV_stable, isAny_stable]) (by simp [killsOf, List.zipIdx_cons]) (by decide) (l := [_, _, _, _, _, _, _]) rfl (by decide) (by kernel_rfl) (by kernel_rfl) (by kernel_rfl) (by decide) ?_ ?_
      · refine ⟨?_, ?_, ?_, ?_, ?_, ?_, ?_, trivial⟩
        all_goals (intro u wx hI hp; simp only [mkAct, List.foldl_cons, List.foldl_nil, List.setIfInBounds_toArray, List.set_cons_succ, List.set_cons_zero])
        · -- operation 0
          go_wp2
          refine stg_v (x := (.pointer (some ⟨g, 1, none⟩))) rfl Same.refl ?_
          first | (simp only [mkAct, List.foldl_cons, List.foldl_nil, List.setIfInBounds_toArray, List.set_cons_succ, List.set_cons_zero, upd, reduceIte, Nat.reduceEqDiff, Nat.reduceAdd, str]; done) | (simp [mkAct, upd, str, *]; done)
        · -- operation 1
          obtain ⟨f0, -⟩ := hp
          replace f0 : u 0 = (.pointer (some ⟨g, 1, none⟩)) := f0
          try simp only [f0, str]
          have c2 := hI.cell c1.out grb
          go_wp2
          refine stg_v (x := (.int .u64 x)) rfl Same.refl ?_
          first | (simp only [mkAct, List.foldl_cons, List.foldl_nil, List.setIfInBounds_toArray, List.set_cons_succ, List.set_cons_zero, upd, reduceIte, Nat.reduceEqDiff, Nat.reduceAdd, f0, str]; done) | (simp [mkAct, upd, f0, str, *]; done)
        · -- operation 2
          obtain ⟨f1, -⟩ := hp
          replace f1 : u 1 = (.int .u64 x) := f1
          try simp only [f1, str]
          have hs := hsh.out
          go_wp2
          refine stg_v (x := (.int .u64 ((x : Int) * 4294967296))) rfl Same.refl ?_
          first | (simp only [mkAct, List.foldl_cons, List.foldl_nil, List.setIfInBounds_toArray, List.set_cons_succ, List.set_cons_zero, upd, reduceIte, Nat.reduceEqDiff, Nat.reduceAdd, f1, str]; done) | (simp [mkAct, upd, f1, str, *]; done)
        · -- operation 3
          go_wp2
          refine stg_v (x := (.pointer (some ⟨rb, 0, none⟩))) rfl Same.refl ?_
          first | (simp only [mkAct, List.foldl_cons, List.foldl_nil, List.setIfInBounds_toArray, List.set_cons_succ, List.set_cons_zero, upd, reduceIte, Nat.reduceEqDiff, Nat.reduceAdd, str]; done) | (simp [mkAct, upd, str, *]; done)
        · -- operation 4
          obtain ⟨f3, fG0, -⟩ := hp
          replace f3 : u 3 = (.pointer (some ⟨rb, 0, none⟩)) := f3
          try simp only [f3, str]
          have fG := Lib.hid fG0
          go_wp2_with fail
          refine (hc.out _ fG.out).mono ?_
          rintro e w8 ⟨rfl, hr8, hk8⟩
          go_wp2
          refine stg_v (x := (.int .i64 y)) ⟨rfl, hr8⟩ hk8 ?_
          first | (simp only [mkAct, List.foldl_cons, List.foldl_nil, List.setIfInBounds_toArray, List.set_cons_succ, List.set_cons_zero, upd, reduceIte, Nat.reduceEqDiff, Nat.reduceAdd, f3, str]; done) | (simp [mkAct, upd, f3, str, *]; done)
        · -- operation 5
          obtain ⟨f4, -⟩ := hp
          obtain ⟨f4, -⟩ := f4
          try simp only [f4]
          go_wp2
          refine stg_v (x := (.int .u64 y)) rfl Same.refl ?_
          first | (simp only [mkAct, List.foldl_cons, List.foldl_nil, List.setIfInBounds_toArray, List.set_cons_succ, List.set_cons_zero, upd, reduceIte, Nat.reduceEqDiff, Nat.reduceAdd, str]; done) | (simp [mkAct, upd, str, *]; done)
        · -- operation 6
          obtain ⟨f2, f5, -⟩ := hp
          replace f2 : u 2 = (.int .u64 ((x : Int) * 4294967296)) := f2
          replace f5 : u 5 = (.int .u64 y) := f5
          try simp only [f2, f5, str]
          have ho := hor.out
          go_wp2
          refine stg_v (x := (.int .u64 z)) rfl Same.refl ?_
          first | (simp only [mkAct, List.foldl_cons, List.foldl_nil, List.setIfInBounds_toArray, List.set_cons_succ, List.set_cons_zero, upd, reduceIte, Nat.reduceEqDiff, Nat.reduceAdd, f2, f5, str]; done) | (simp [mkAct, upd, f2, f5, str, *]; done)
      · intro u wx hI hR
        obtain ⟨r0, r1, r2, r3, r4, r5, r6, -⟩ := hR
        replace r0 : u 0 = (.pointer (some ⟨g, 1, none⟩)) := r0
        replace r1 : u 1 = (.int .u64 x) := r1
        replace r2 : u 2 = (.int .u64 ((x : Int) * 4294967296)) := r2
        replace r3 : u 3 = (.pointer (some ⟨rb, 0, none⟩)) := r3
        replace r5 : u 5 = (.int .u64 y) := r5
        replace r6 : u 6 = (.int .u64 z) := r6
        simp only [mkAct, List.foldl_cons, List.foldl_nil, List.setIfInBounds_toArray, List.set_cons_succ, List.set_cons_zero]
        try simp only [str, r0, r1, r2, r3, r5, r6]
        obtain ⟨-, hr8⟩ := r4
        have hv8 := hI.rowW hvk.out grb
        have hz8 := hI.rowW hzk.out nB
        have hk8 := hkk.out.trans hI (fun _ _ h => h)
        clear hI hvk hzk hrk hkk c1
        replace hv8 := Lib.hid hv8
        replace hz8 := Lib.hid hz8
        replace hk8 := Lib.hid hk8
        replace hr8 := Lib.hid hr8
        have cg : wx.cell? ⟨g, 1, none⟩ = some (.int .u64 x) := blk_cell hv8.out 1
        have fg : wx.frozen? ⟨g, 1, none⟩ = false := blk_frozen hv8.out 1
        go_wp2
        go_roundw
        case rel =>
          have hks : Keep (· = g) wx (wx.setCell ⟨g, 1, none⟩ (.int .u64 z)) := Keep.setCell (p := (· = g)) _ rfl
          refine ⟨k + 1, by omega, by go_num, ?_, hks.rowW hz8.out gB, ?_, hk8.out.trans hks (fun x hx hv => by omega)⟩
          · rw [← hz.out]
            exact (blk_set hv8.out).trans rfl
          · rw [← hS'.out]
            exact hr8.out.keep hks grb2 gdb
        case measure => simp [intOf]; omega
    · obtain rfl : k = 2 := by omega
      rw [hB2.out] at hvk
      rw [hS2.out] at hrk
      have herr := fun w h => err_any rb db s3 w h
      obtain ⟨E0, hE0⟩ : ∃ x, x = s3.2 := ⟨_, rfl⟩
      rw [← hE0] at herr
      have hX2 := hX1.out
      rw [← hE0] at hX2
      clear hround hB0 hB2 hS0 hS2 hX1 hE0 hk hlt
      have hv := Lib.hid hvk
      have hz := Lib.hid hzk
      have hr5 := Lib.hid hrk
      have hk5 := Lib.hid hkk
      clear hvk hzk hrk hkk
      replace herr := Lib.hid herr
      by_cases hEz : E0 = 0
      · subst hEz
        cases G
        · have hXe : X.1 = Win.zero := by rw [hX2, if_neg (by simp)]
          clear hX2
          replace hXe := Lib.hid hXe
          go_wp2_with fail
          refine (herr.out _ hr5.out).mono ?_
          rintro e w6 ⟨rfl, rfl⟩
          go_wp2_with (refine load_row rfl _ _ rfl g rfl _ _ _ _ hv.out Tryd.underlying38 rfl hinf.out ?_)
          refine (hG.out _).mono ?_
          rintro e w7 ⟨rfl, hs6⟩
          replace hz := Lib.hid (hs6.row hz.out)
          replace hk5 := Lib.hid (hk5.out.trans (Keep.of_same (p := fun _ => False) hs6) (fun _ _ h => h.elim))
          replace hr5 := Lib.hid (hr5.out.same hs6)
          clear hs6 hv
          go_wp2_with (refine store_row rfl _ _ _ rfl B #[.int .i64 0, .int .u64 0] rfl rfl _ _ hz.out hinf.out rfl (by simp [Value.oneCell']) ?_; intro w9 hb9 hk9; replace hb9 := Lib.hid hb9; replace hk9 := Lib.hid hk9)
          refine bodyPost_ret (v := .agg #[.int .i64 0, .int .u64 (0 : Nat)]) (results_row (p := 2) (ty := 38) rfl _ _ B _ _ _ _ rfl hb9.out Tryd.underlying38 rfl hinf.out) rfl ?_
          exact ⟨by first | (rw [hXe.out]; done) | (rw [hXe.out]; rfl), by rw [hS3.out]; exact hr5.out.keep hk9.out nrb ndb, hk5.out.trans hk9.out (fun x hx hv => by have := hBe.out; omega)⟩
        · have hXe : X.1 = ⟨(n1 : Int), M⟩ := by rw [hX2, if_pos ⟨rfl, rfl⟩]
          clear hX2
          replace hXe := Lib.hid hXe
          have hq' := fun w => hq0.out w rfl
          have hgd' := hgd.out
          go_wp2_with fail
          refine (herr.out _ hr5.out).mono ?_
          rintro e w6 ⟨rfl, rfl⟩
          go_wp2_with (refine load_row rfl _ _ rfl g rfl _ _ _ _ hv.out Tryd.underlying38 rfl hinf.out ?_)
          refine (hG.out _).mono ?_
          rintro e w7 ⟨rfl, hs6⟩
          replace hz := Lib.hid (hs6.row hz.out)
          replace hv := Lib.hid (hs6.row hv.out)
          replace hk5 := Lib.hid (hk5.out.trans (Keep.of_same (p := fun _ => False) hs6) (fun _ _ h => h.elim))
          replace hr5 := Lib.hid (hr5.out.same hs6)
          clear hs6
          go_wp2_with (first | (refine load_row rfl _ _ rfl g rfl _ _ _ _ hv.out Tryd.underlying38 rfl hinf.out ?_) | (refine store_row rfl _ _ _ rfl B #[.int .i64 n1, .int .u64 M] rfl rfl _ _ hz.out hinf.out rfl (by simp [Value.oneCell']) ?_; intro w9 hb9 hk9; replace hb9 := Lib.hid hb9; replace hk9 := Lib.hid hk9))
          refine bodyPost_ret (v := .agg #[.int .i64 (n1 : Int), .int .u64 (M : Nat)]) (results_row (p := 2) (ty := 38) rfl _ _ B _ _ _ _ rfl hb9.out Tryd.underlying38 rfl hinf.out) rfl ?_
          exact ⟨by first | (rw [hXe.out]; done) | (rw [hXe.out]; rfl), by rw [hS3.out]; exact hr5.out.keep hk9.out nrb ndb, hk5.out.trans hk9.out (fun x hx hv => by have := hBe.out; omega)⟩
      · have hXe : X.1 = Win.zero := by rw [hX2, if_neg (fun h => hEz h.1)]
        have hne : ((E0 : Int) != 0) = true := by simp; omega
        clear hX2 hEz
        replace hXe := Lib.hid hXe
        go_wp2_with fail
        refine (herr.out _ hr5.out).mono ?_
        rintro e w6 ⟨rfl, rfl⟩
        go_wp2_with (refine store_row rfl _ _ _ rfl B #[.int .i64 0, .int .u64 0] rfl rfl _ _ hz.out hinf.out rfl (by simp [Value.oneCell']) ?_; intro w9 hb9 hk9; replace hb9 := Lib.hid hb9; replace hk9 := Lib.hid hk9)
        refine bodyPost_ret (v := .agg #[.int .i64 0, .int .u64 (0 : Nat)]) (results_row (p := 2) (ty := 38) rfl _ _ B _ _ _ _ rfl hb9.out Tryd.underlying38 rfl hinf.out) rfl ?_
        exact ⟨by first | (rw [hXe.out]; done) | (rw [hXe.out]; rfl), by rw [hS3.out]; exact hr5.out.keep hk9.out nrb ndb, hk5.out.trans hk9.out (fun x hx hv => by have := hBe.out; omega)⟩
end Go.Proofs.YtkhloanpdehegaaDoor
