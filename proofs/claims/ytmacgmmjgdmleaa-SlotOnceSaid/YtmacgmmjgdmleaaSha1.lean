/-
  The digest's small functions: turns of words, a round's number.
-/
import Derived.Test.YtmacgmmjgdmleaaReads
import Derived.Test.YtmacgmmjgdmleaaStab
import Derived.Test.YtmacgmmjgdmleaaShaSpec
import Derived.Test.YtmacgmmjgdmleaaArr
import Derived.Deep.QuietTactic
import Derived.BigQuiet
import Derived.Deep.RegionWith
import Derived.Laws.BitsAllLaws
namespace Go.Proofs.Ytmacgmmjgdmleaa
open Go Go.RowKit
set_option linter.unusedSimpArgs false
set_option linter.unusedVariables false

abbrev uv (x : UInt32) : Value := .int .u32 (x.toNat : Int)
def uvs (l : List UInt32) : List Value := l.map uv
theorem uvs_length (l : List UInt32) : (uvs l).length = l.length := by simp [uvs]
/-- Nothing but draws. -/
def Drew (w w' : World) : Prop := ∃ k, w' = w.drewN k
theorem Drew.refl {w : World} : Drew w w := ⟨0, rfl⟩
theorem Drew.same {w w' : World} (h : Drew w w') : Same w w' := by
  obtain ⟨k, rfl⟩ := h
  exact Same.refl.drewN k
theorem Drew.drew {w : World} : Drew w w.drew := ⟨1, rfl⟩
theorem Drew.trans {w w' w2 : World} (h : Drew w w') (k : Drew w' w2) : Drew w w2 := by
  obtain ⟨n, rfl⟩ := h
  obtain ⟨m, rfl⟩ := k
  exact ⟨n + m, by rw [World.drewN_drewN]⟩
theorem quiet_eq {P : Program} {f : FuncId} {args : Array Value} {w : World} {n : Nat} {v : Value} (h : Calls P f args (w.drewN n) fun e w' => e = .returned v ∧ w.drewN n = w') : Calls P f args (w.drewN n) fun e w'' => e = .returned v ∧ ∃ m, w'' = w.drewN m :=
  Calls.quiet_of_same (h.mono fun _ _ ⟨a, b⟩ => ⟨a, b.symm⟩)
theorem quiet_drew {P : Program} {f : FuncId} {args : Array Value} {w : World} {n : Nat} {v : Value} (h : Calls P f args (w.drewN n) fun e w' => e = .returned v ∧ Drew (w.drewN n) w') : Calls P f args (w.drewN n) fun e w'' => e = .returned v ∧ ∃ m, w'' = w.drewN m :=
  Calls.quiet_of h
theorem u32_xor_words (x y : UInt32) : bits BinOp.xor .u32 (x.toNat : Int) (y.toNat : Int) = ((x ^^^ y).toNat : Int) := by
  rw [u32_xor_nat _ _ x.toNat_lt y.toNat_lt, UInt32.toNat_xor]
theorem u32_and_words (x y : UInt32) : bits BinOp.and .u32 (x.toNat : Int) (y.toNat : Int) = ((x &&& y).toNat : Int) := by
  rw [u32_and_nat _ _ x.toNat_lt y.toNat_lt, UInt32.toNat_and]
theorem u32_add_words (x y : UInt32) : ((x.toNat : Int) + (y.toNat : Int)) % 4294967296 = ((x + y).toNat : Int) := by
  rw [UInt32.toNat_add]
  omega
theorem shr_int (x : UInt32) (a : Nat) : ((Sha.shr x a).toNat : Int) = (x.toNat : Int) / 2 ^ a := by
  rw [Sha.shr_toNat]
  simp
theorem rot_or (x : UInt32) (a : Nat) (h1 : a < 32) : bits BinOp.or .u32 ((x.toNat : Int) * 2 ^ (32 - a) % 4294967296) ((x.toNat : Int) / 2 ^ (32 - (32 - a))) = ((Sha.rotr x a).toNat : Int) := by
  have hx := x.toNat_lt
  have e0 : 32 - (32 - a) = a := by omega
  have e1 : ((x.toNat : Int) * 2 ^ (32 - a) % 4294967296) = ((x.toNat * 2 ^ (32 - a) % 4294967296 : Nat) : Int) := by simp
  have e2 : ((x.toNat : Int) / 2 ^ a) = ((x.toNat / 2 ^ a : Nat) : Int) := by simp
  have h2 : x.toNat / 2 ^ a < 4294967296 := Nat.lt_of_le_of_lt (Nat.div_le_self _ _) hx
  rw [e0, e1, e2, u32_or_nat _ _ (Nat.mod_lt _ (by decide)) h2, Sha.rotr_toNat, Nat.or_comm]
theorem rot_or2 (x : UInt32) (a : Nat) (h1 : a < 32) : bits BinOp.or .u32 ((x.toNat : Int) / 2 ^ a) ((x.toNat : Int) * 2 ^ (32 - a) % 4294967296) = ((Sha.rotr x a).toNat : Int) := by
  have hx := x.toNat_lt
  have e1 : ((x.toNat : Int) * 2 ^ (32 - a) % 4294967296) = ((x.toNat * 2 ^ (32 - a) % 4294967296 : Nat) : Int) := by simp
  have e2 : ((x.toNat : Int) / 2 ^ a) = ((x.toNat / 2 ^ a : Nat) : Int) := by simp
  have h2 : x.toNat / 2 ^ a < 4294967296 := Nat.lt_of_le_of_lt (Nat.div_le_self _ _) hx
  rw [e1, e2, u32_or_nat _ _ h2 (Nat.mod_lt _ (by decide)), Sha.rotr_toNat]
theorem minus_and : ∀ a : Fin 32, 0 < a.val → bits BinOp.and .u64 (IntKind.u64.wrap (-(a.val : Int))) 31 = ((32 - a.val : Nat) : Int) := by decide +kernel
theorem ret_u32 {k : IntKind} {a b : Int} (h : a = b) : Ending.returned (.int k a) = .returned (.int k b) := by rw [h]

set_option maxRecDepth 100000 in
set_option maxHeartbeats 400000 in
theorem rotate_any (x : UInt32) (a : Nat) (w : World) (h0 : 0 < a) (h1 : a < 32) :
    Calls Try.prog 202 #[uv x, .int .i64 (-(a : Int))] w fun e w' => e = .returned (uv (Sha.rotr x a)) ∧ w = w' := by
  have hb := minus_and ⟨a, h1⟩ h0
  have hx := x.toNat_lt
  have hr := rot_or x a h1
  obtain ⟨n, hn⟩ : ∃ n, n = x.toNat := ⟨_, rfl⟩
  obtain ⟨s, hs⟩ : ∃ s, s = 32 - a := ⟨_, rfl⟩
  simp only at hb
  rw [← hs] at hb hr
  rw [← hn] at hr hx
  have hs0 : 0 < s := by omega
  have hs1 : s < 32 := by omega
  show Calls _ _ #[.int .u32 (x.toNat : Int), _] _ _
  rw [← hn]
  replace hr := Lib.hid hr
  clear hn hs
  go_enter Try.func202, Try.ntmps202
  go_wp2
  go_ret
  exact ⟨ret_u32 hr.out, rfl⟩
set_option maxRecDepth 100000 in
set_option maxHeartbeats 400000 in
theorem turns_any (x : UInt32) (a b c : Nat) (w : World) (ha : 0 < a ∧ a < 32) (hb : 0 < b ∧ b < 32) (hc : 0 < c ∧ c < 32) :
    Calls Try.prog 199 #[uv x, .int .i64 a, .int .i64 b, .int .i64 c] w fun e w' => e = .returned (uv (Sha.turns x a b c)) ∧ w = w' := by
  have h1 := Lib.hid (fun w => rotate_any x a w ha.1 ha.2)
  have h2 := Lib.hid (fun w => rotate_any x b w hb.1 hb.2)
  have h3 := Lib.hid (fun w => rotate_any x c w hc.1 hc.2)
  go_enter Try.func199, Try.ntmps199
  go_wp2_with fail
  refine (h1.out _).mono ?_
  rintro e w' ⟨rfl, rfl⟩
  go_wp2_with fail
  refine (h2.out _).mono ?_
  rintro e w' ⟨rfl, rfl⟩
  go_wp2_with fail
  refine (h3.out _).mono ?_
  rintro e w' ⟨rfl, rfl⟩
  go_wp2
  go_ret
  exact ⟨ret_u32 (by rw [u32_xor_words, u32_xor_words]; rfl), rfl⟩
set_option maxRecDepth 100000 in
set_option maxHeartbeats 400000 in
theorem ror_any (x : UInt32) (a : Nat) (w : World) (h0 : 0 < a) (h1 : a < 32) :
    Calls Try.prog 181 #[uv x, .int .i64 a] w fun e w' => e = .returned (uv (Sha.rotr x a)) ∧ Drew w w' := by
  have hx := x.toNat_lt
  have hr := rot_or2 x a h1
  obtain ⟨n, hn⟩ : ∃ n, n = x.toNat := ⟨_, rfl⟩
  rw [← hn] at hr hx
  show Calls _ _ #[.int .u32 (x.toNat : Int), _] _ _
  rw [← hn]
  replace hr := Lib.hid hr
  clear hn
  go_enter Try.func181, Try.ntmps181
  go_wp2
  go_quiet (fail)
  go_wp2
  go_ret
  exact ⟨ret_u32 hr.out, ⟨_, rfl⟩⟩
set_option maxRecDepth 100000 in
set_option maxHeartbeats 400000 in
theorem mix_any (x : UInt32) (a b c : Nat) (w : World) (ha : 0 < a ∧ a < 32) (hb : 0 < b ∧ b < 32) (hc : 0 < c ∧ c < 32) :
    Calls Try.prog 201 #[uv x, .int .i64 a, .int .i64 b, .int .i64 c] w fun e w' => e = .returned (uv (Sha.mix x a b c)) ∧ Drew w w' := by
  have h1 := Lib.hid (fun w => rotate_any x a w ha.1 ha.2)
  have h2 := Lib.hid (fun w => rotate_any x b w hb.1 hb.2)
  have hwa : IntKind.i64.wrap (-(a : Int)) = -(a : Int) := IntWalk.i64_in _ ⟨by omega, by omega⟩
  have hwb : IntKind.i64.wrap (-(b : Int)) = -(b : Int) := IntWalk.i64_in _ ⟨by omega, by omega⟩
  go_enter Try.func201, Try.ntmps201
  go_wp2
  go_quiet ((first | (go_at_call_of 202 (Value.int IntKind.i64 (-(a : Int))); exact quiet_eq (h1.out _)) | (go_at_call_of 202 (Value.int IntKind.i64 (-(b : Int))); exact quiet_eq (h2.out _))))
  go_wp2
  go_ret
  exact ⟨ret_u32 (by rw [u32_xor_words, ← shr_int, u32_xor_words]; rfl), ⟨_, rfl⟩⟩
theorem uvs_get {l : List UInt32} {j : Nat} (h : j < l.length) : (uvs l).toArray[j]? = some (uv (l.getD j 0)) := by
  simp [uvs, h, List.getD]
theorem K_length : Sha.K.length = 64 := rfl
set_option maxRecDepth 100000 in
set_option maxHeartbeats 400000 in
theorem round_any (t : Nat) (w : World) (h1 : t < 64) : Calls Try.prog 200 #[.int .i64 t] w fun e w' => e = .returned (uv (Sha.kAt t)) ∧ Same w w' := by
  have hK := uvs_get (l := Sha.K) (j := t) (by rw [K_length]; exact h1)
  replace hK := Lib.hid hK
  go_enter Try.func200, Try.ntmps200
  go_wp2_with (first | (refine build_const (.agg (uvs Sha.K).toArray) rfl rfl (by kernel_rfl) ?_) | (refine store_row rfl _ _ _ rfl w.heap.size (uvs Sha.K).toArray rfl rfl _ _ (heap_alloc_new _ _) (by kernel_rfl) (by simp [uvs_length, K_length]) (by kernel_rfl) ?_; intro w2 hb hk; have hs : Same w w2 := (Same.alloc Same.refl _).keep hk (fun x hx hv => by omega); clear hk; have hc := blk_cell hb t; rw [hK.out] at hc; clear hb))
  go_ret
  exact ⟨rfl, hs⟩
set_option maxRecDepth 100000 in
set_option maxHeartbeats 400000 in
theorem constant_any (t : Nat) (w : World) (h1 : t < 64) : Calls Try.prog 182 #[.int .i64 t] w fun e w' => e = .returned (uv (Sha.kAt t)) ∧ Same w w' := by
  have hK := uvs_get (l := Sha.K) (j := t) (by rw [K_length]; exact h1)
  replace hK := Lib.hid hK
  go_enter Try.func182, Try.ntmps182
  go_wp2_with (first | (refine build_const (.agg (uvs Sha.K).toArray) rfl rfl (by kernel_rfl) ?_) | (refine store_row rfl _ _ _ rfl w.heap.size (uvs Sha.K).toArray rfl rfl _ _ (heap_alloc_new _ _) (by kernel_rfl) (by simp [uvs_length, K_length]) (by kernel_rfl) ?_; intro w2 hb hk; have hs : Same w w2 := (Same.alloc Same.refl _).keep hk (fun x hx hv => by omega); clear hk; have hc := blk_cell hb t; rw [hK.out] at hc; clear hb))
  go_ret
  exact ⟨rfl, hs⟩
end Go.Proofs.Ytmacgmmjgdmleaa
