/- Contracts of the decimals and of the texts of labels, of the program and of the reference: each computes its plain list of bytes and makes at most new blocks. The numbers lie in 0 .. 99. -/
import Derived.Test.YtcgmnpppdoadhaaDoorOk
import Derived.Test.YtcgmnpppdoadhaaDoorInv
import Derived.Laws.IdiomStrings
namespace Go.Proofs.YtcgmnpppdoadhaaDoor
set_option maxRecDepth 100000
open Go.RowKit
set_option linter.unusedVariables false

/-- A text out of its bytes. -/
def txt (l : List UInt8) : ByteArray := ⟨l.toArray⟩
/-- The decimals of a number below a hundred. -/
def dig (n : Nat) : UInt8 := UInt8.ofNat (48 + n)
def dec (n : Nat) : List UInt8 := if n < 10 then [dig n] else [dig (n / 10), dig (n % 10)]
def lblTxt (s v : Int) : List UInt8 := if lblOk s v then dec s.toNat ++ [47] ++ dec v.toNat else []
theorem txt_append (a b : List UInt8) : txt a ++ txt b = txt (a ++ b) := by
  apply ByteArray.ext
  simp [txt]
theorem dec_small (n : Nat) (h : n < 10) : dec n = [dig n] := by simp [dec, h]
theorem dec_large (n : Nat) (h : ¬ n < 10) : dec n = [dig (n / 10)] ++ [dig (n % 10)] := by simp [dec, h]
theorem digits_fin : ∀ n : Fin 10, ByteArray.extract ⟨#[48, 49, 50, 51, 52, 53, 54, 55, 56, 57, 97, 98, 99, 100, 101, 102, 103, 104, 105, 106, 107, 108, 109, 110, 111, 112, 113, 114, 115, 116, 117, 118, 119, 120, 121, 122]⟩ n.val (n.val + 1) = txt (dec n.val) := by decide +kernel
theorem smalls_fin : ∀ n : Fin 100, ¬ n.val < 10 → ByteArray.extract ⟨#[48, 48, 48, 49, 48, 50, 48, 51, 48, 52, 48, 53, 48, 54, 48, 55, 48, 56, 48, 57, 49, 48, 49, 49, 49, 50, 49, 51, 49, 52, 49, 53, 49, 54, 49, 55, 49, 56, 49, 57, 50, 48, 50, 49, 50, 50, 50, 51, 50, 52, 50, 53, 50, 54, 50, 55, 50, 56, 50, 57, 51, 48, 51, 49, 51, 50, 51, 51, 51, 52, 51, 53, 51, 54, 51, 55, 51, 56, 51, 57, 52, 48, 52, 49, 52, 50, 52, 51, 52, 52, 52, 53, 52, 54, 52, 55, 52, 56, 52, 57, 53, 48, 53, 49, 53, 50, 53, 51, 53, 52, 53, 53, 53, 54, 53, 55, 53, 56, 53, 57, 54, 48, 54, 49, 54, 50, 54, 51, 54, 52, 54, 53, 54, 54, 54, 55, 54, 56, 54, 57, 55, 48, 55, 49, 55, 50, 55, 51, 55, 52, 55, 53, 55, 54, 55, 55, 55, 56, 55, 57, 56, 48, 56, 49, 56, 50, 56, 51, 56, 52, 56, 53, 56, 54, 56, 55, 56, 56, 56, 57, 57, 48, 57, 49, 57, 50, 57, 51, 57, 52, 57, 53, 57, 54, 57, 55, 57, 56, 57, 57]⟩ (n.val * 2) (n.val * 2 + 2) = txt (dec n.val) := by decide +kernel
/-- The text of a new row of one byte. -/
theorem conv_one {P : Program} {S T E : TypeId} (hS : P.underlying S = some (.slice E)) (hE : P.underlying E = some (.int .u8)) (hT : P.underlying T = some .string) (w : World) (m : Int) (k : Nat) (hm : m = 48 + k) (hk : k < 10) :
    (convert S T (.slice (some ⟨w.heap.size, 0, none⟩) 1 1)).run P (w.alloc (.cells #[.int .u8 m] E)) = .ok (.string (txt [dig k])) (w.alloc (.cells #[.int .u8 m] E)) :=
  run_convert_bytes_back (P := P) (w.alloc (.cells #[.int .u8 m] E)) S T E ⟨w.heap.size, 0, none⟩ 1 [dig k] hS hE hT (fun j hj => by
    have e : j = 0 := by simpa using hj
    subst e
    have h : ((dig k).toNat : Int) = m := by unfold dig; rw [UInt8.toNat_ofNat']; omega
    rw [show ([dig k])[0] = dig k from rfl, h]
    go_simp)
theorem txt_size (l : List UInt8) : (txt l).size = l.length := by simp [txt, ByteArray.size]
theorem dec_len (n : Nat) : (dec n).length ≤ 2 := by unfold dec; split <;> simp
theorem dec_sz (n : Nat) : (txt (dec n)).size ≤ 2 := by rw [txt_size]; exact dec_len n
theorem wr64 {x : Int} (h0 : -1000000 ≤ x) (h1 : x ≤ 1000000) : IntKind.i64.wrap x = x := by
  simp [IntKind.wrap, IntKind.bits, IntKind.signed]; omega
theorem wr8 {x : Int} (h0 : 0 ≤ x) (h1 : x ≤ 255) : IntKind.u8.wrap x = x := by
  simp [IntKind.wrap, IntKind.bits, IntKind.signed]; omega
theorem conv_at {P : Program} {S T E : TypeId} (hS : P.underlying S = some (.slice E)) (hE : P.underlying E = some (.int .u8)) (hT : P.underlying T = some .string) {u : World} {B : Nat} {m : Int} {k : Nat} (hO : u.heap[B]? = some (.cells #[.int .u8 m] E (0, 0))) (hm : m = 48 + k) (hk : k < 10) :
    (convert S T (.slice (some ⟨B, 0, none⟩) 1 1)).run P u = .ok (.string (txt [dig k])) u :=
  run_convert_bytes_back (P := P) u S T E ⟨B, 0, none⟩ 1 [dig k] hS hE hT (fun j hj => by
    have e : j = 0 := by simpa using hj
    subst e
    have h : ((dig k).toNat : Int) = m := by unfold dig; rw [UInt8.toNat_ofNat']; omega
    rw [show ([dig k])[0] = dig k from rfl, h]
    have := (own_cells hO).1 0
    simpa [Addr.add] using this)
set_option maxRecDepth 100000 in
theorem small_any (n : Nat) (h : n < 100) (w : World) :
    Calls Tryd.prog 114 #[.int .i64 n] w fun e w' => e = .returned (.string (txt (dec n))) ∧ w = w' := by
  by_cases h10 : n < 10
  · have hd := digits_fin ⟨n, h10⟩
    simp only at hd
    rw [← hd]
    clear hd
    go_enter Tryd.func114, Tryd.ntmps114
    go_wp2
    go_ret
    exact ⟨rfl, rfl⟩
  · have hd := smalls_fin ⟨n, h⟩ h10
    simp only at hd
    rw [← hd]
    clear hd
    go_enter Tryd.func114, Tryd.ntmps114
    go_wp2
    go_ret
    exact ⟨rfl, rfl⟩
theorem l6Dec_one (n : Nat) (h : n < 10) (w : World) :
    Calls Tryd.prog 68 #[.int .i64 n] w fun e w' => e = .returned (.string (txt (dec n))) ∧ Below w.heap.size w w' := by
  have hc := conv_one (P := Tryd.prog) Tryd.underlying22 Tryd.underlying5 Tryd.underlying9 w (48 + n) n rfl h
  rw [dec_small n h]
  go_enter Tryd.func68, Tryd.ntmps68
  go_wp2_with fail
  go_ret
  exact ⟨rfl, (Below.refl _ _).alloc (Nat.le_refl _) _⟩
set_option maxHeartbeats 1000000 in
theorem l6Dec_any (n : Nat) (h : n < 100) (w : World) :
    Calls Tryd.prog 68 #[.int .i64 n] w fun e w' => e = .returned (.string (txt (dec n))) ∧ Below w.heap.size w w' := by
  by_cases h10 : n < 10
  · exact l6Dec_one n h10 w
  have hq : (n : Int) / 10 = ((n / 10 : Nat) : Int) := by omega
  have Hq := hid hq
  rw [dec_large n h10, ← dec_small (n % 10) (by omega), ← txt_append, dec_small (n % 10) (by omega)]
  clear hq
  go_enter Tryd.func68, Tryd.ntmps68
  go_wp2_with fail
  refine wp_region_each (by kernel_rfl) (by kernel_rfl) (by kernel_rfl) (fun b ac u => ∃ t2 t18 t19 t20 t21 t22 t23 t24 t25 t26 t27 : Value, ac = ⟨#[.int .i64 n, undef, t2, .int .i64 n, .bool (decide ((n : Int) < -9223372036854775807)), .int .i64 n, .bool (decide ((n : Int) < 0)), undef, undef, undef, undef, .int .i64 n, .bool (decide ((n : Int) < 10)), undef, undef, undef, undef, undef, t18, t19, t20, t21, t22, t23, t24, t25, t26, t27], []⟩ ∧ (Below w.heap.size w u) ∧ (b[0]? = some true → t18 = .int .i64 n) ∧ (b[1]? = some true → t19 = .int .i64 ((n : Int) / 10)) ∧ (b[2]? = some true → t20 = .string (txt [dig (n / 10)])) ∧ (b[3]? = some true → t21 = .int .i64 n) ∧ (b[4]? = some true → t22 = .int .i64 ((n : Int) % 10)) ∧ (b[5]? = some true → t23 = .int .i64 (48 + (n : Int) % 10)) ∧ (b[6]? = some true → t24 = .int .u8 (48 + (n : Int) % 10)) ∧ (b[7]? = some true → ∃ B : Nat, t25 = .slice (some ⟨B, 0, none⟩) 1 1 ∧ u.heap[B]? = some (.cells #[.int .u8 (48 + (n : Int) % 10)] 5 (0, 0))) ∧ (b[8]? = some true → t26 = .string (txt [dig (n % 10)])) ∧ (b[9]? = some true → t27 = .string (txt [dig (n / 10)] ++ txt [dig (n % 10)])) ∧ (b[10]? = some true → t2 = .string (txt [dig (n / 10)] ++ txt [dig (n % 10)]))) ?h0_1 ⟨?o1_0, ?o1_1, ?o1_2, ?o1_3, ?o1_4, ?o1_5, ?o1_6, ?o1_7, ?o1_8, ?o1_9, ?o1_10, trivial⟩ ?hend_1
  case h0_1 => exact ⟨(.string ⟨#[]⟩), undef, undef, undef, undef, undef, undef, undef, undef, undef, undef, rfl, (Below.refl _ _).drew, by simp, by simp, by simp, by simp, by simp, by simp, by simp, by simp, by simp, by simp, by simp⟩
  case o1_0 =>
    rintro b ac u hbl hbi hcl he ⟨t2, t18, t19, t20, t21, t22, t23, t24, t25, t26, t27, rfl, hk, g0, g1, g2, g3, g4, g5, g6, g7, g8, g9, g10⟩ K hK
    clear he
    go_simp
    have hR := Below.refl u.heap.size u
    exact hK _ _ ⟨_, _, _, _, _, _, _, _, _, _, _, rfl, hk.trans (hR.mono hk.size), fun _ => rfl, fun h => g1 (by simpa using h), fun h => g2 (by simpa using h), fun h => g3 (by simpa using h), fun h => g4 (by simpa using h), fun h => g5 (by simpa using h), fun h => g6 (by simpa using h), fun h => (fun g => (by obtain ⟨B, e, hO⟩ := g; exact ⟨B, e, own_below hR hO⟩)) (g7 (by simpa using h)), fun h => g8 (by simpa using h), fun h => g9 (by simpa using h), fun h => g10 (by simpa using h)⟩
  case o1_1 =>
    rintro b ac u hbl hbi hcl he ⟨t2, t18, t19, t20, t21, t22, t23, t24, t25, t26, t27, rfl, hk, g0, g1, g2, g3, g4, g5, g6, g7, g8, g9, g10⟩ K hK
    have p0 : b[0]? = some true := by simp [Region.binds] at he; simp [he]
    obtain rfl := g0 p0
    clear he
    have hw : IntKind.i64.wrap ((n : Int) / 10) = (n : Int) / 10 := wr64 (by omega) (by omega)
    go_simp
    have hR := Below.refl u.heap.size u
    exact hK _ _ ⟨_, _, _, _, _, _, _, _, _, _, _, rfl, hk.trans (hR.mono hk.size), fun h => g0 (by simpa using h), fun _ => rfl, fun h => g2 (by simpa using h), fun h => g3 (by simpa using h), fun h => g4 (by simpa using h), fun h => g5 (by simpa using h), fun h => g6 (by simpa using h), fun h => (fun g => (by obtain ⟨B, e, hO⟩ := g; exact ⟨B, e, own_below hR hO⟩)) (g7 (by simpa using h)), fun h => g8 (by simpa using h), fun h => g9 (by simpa using h), fun h => g10 (by simpa using h)⟩
  case o1_2 =>
    rintro b ac u hbl hbi hcl he ⟨t2, t18, t19, t20, t21, t22, t23, t24, t25, t26, t27, rfl, hk, g0, g1, g2, g3, g4, g5, g6, g7, g8, g9, g10⟩ K hK
    have p1 : b[1]? = some true := by simp [Region.binds] at he; simp [he]
    obtain rfl := g1 p1
    clear he
    go_simp
    rw [Hq.out]
    refine (l6Dec_one (n / 10) (by omega) _).mono ?_
    rw [dec_small (n / 10) (by omega)]
    rintro e u' ⟨rfl, hR⟩
    go_simp
    exact hK _ _ ⟨_, _, _, _, _, _, _, _, _, _, _, rfl, hk.trans (hR.mono hk.size), fun h => g0 (by simpa using h), fun h => g1 (by simpa using h), fun _ => rfl, fun h => g3 (by simpa using h), fun h => g4 (by simpa using h), fun h => g5 (by simpa using h), fun h => g6 (by simpa using h), fun h => (fun g => (by obtain ⟨B, e, hO⟩ := g; exact ⟨B, e, own_below hR hO⟩)) (g7 (by simpa using h)), fun h => g8 (by simpa using h), fun h => g9 (by simpa using h), fun h => g10 (by simpa using h)⟩
  case o1_3 =>
    rintro b ac u hbl hbi hcl he ⟨t2, t18, t19, t20, t21, t22, t23, t24, t25, t26, t27, rfl, hk, g0, g1, g2, g3, g4, g5, g6, g7, g8, g9, g10⟩ K hK
    clear he
    go_simp
    have hR := Below.refl u.heap.size u
    exact hK _ _ ⟨_, _, _, _, _, _, _, _, _, _, _, rfl, hk.trans (hR.mono hk.size), fun h => g0 (by simpa using h), fun h => g1 (by simpa using h), fun h => g2 (by simpa using h), fun _ => rfl, fun h => g4 (by simpa using h), fun h => g5 (by simpa using h), fun h => g6 (by simpa using h), fun h => (fun g => (by obtain ⟨B, e, hO⟩ := g; exact ⟨B, e, own_below hR hO⟩)) (g7 (by simpa using h)), fun h => g8 (by simpa using h), fun h => g9 (by simpa using h), fun h => g10 (by simpa using h)⟩
  case o1_4 =>
    rintro b ac u hbl hbi hcl he ⟨t2, t18, t19, t20, t21, t22, t23, t24, t25, t26, t27, rfl, hk, g0, g1, g2, g3, g4, g5, g6, g7, g8, g9, g10⟩ K hK
    have p3 : b[3]? = some true := by simp [Region.binds] at he; simp [he]
    obtain rfl := g3 p3
    clear he
    go_simp
    have hR := Below.refl u.heap.size u
    exact hK _ _ ⟨_, _, _, _, _, _, _, _, _, _, _, rfl, hk.trans (hR.mono hk.size), fun h => g0 (by simpa using h), fun h => g1 (by simpa using h), fun h => g2 (by simpa using h), fun h => g3 (by simpa using h), fun _ => rfl, fun h => g5 (by simpa using h), fun h => g6 (by simpa using h), fun h => (fun g => (by obtain ⟨B, e, hO⟩ := g; exact ⟨B, e, own_below hR hO⟩)) (g7 (by simpa using h)), fun h => g8 (by simpa using h), fun h => g9 (by simpa using h), fun h => g10 (by simpa using h)⟩
  case o1_5 =>
    rintro b ac u hbl hbi hcl he ⟨t2, t18, t19, t20, t21, t22, t23, t24, t25, t26, t27, rfl, hk, g0, g1, g2, g3, g4, g5, g6, g7, g8, g9, g10⟩ K hK
    have p4 : b[4]? = some true := by simp [Region.binds] at he; simp [he]
    obtain rfl := g4 p4
    clear he
    have hw : IntKind.i64.wrap (48 + (n : Int) % 10) = 48 + (n : Int) % 10 := wr64 (by omega) (by omega)
    go_simp
    have hR := Below.refl u.heap.size u
    exact hK _ _ ⟨_, _, _, _, _, _, _, _, _, _, _, rfl, hk.trans (hR.mono hk.size), fun h => g0 (by simpa using h), fun h => g1 (by simpa using h), fun h => g2 (by simpa using h), fun h => g3 (by simpa using h), fun h => g4 (by simpa using h), fun _ => rfl, fun h => g6 (by simpa using h), fun h => (fun g => (by obtain ⟨B, e, hO⟩ := g; exact ⟨B, e, own_below hR hO⟩)) (g7 (by simpa using h)), fun h => g8 (by simpa using h), fun h => g9 (by simpa using h), fun h => g10 (by simpa using h)⟩
  case o1_6 =>
    rintro b ac u hbl hbi hcl he ⟨t2, t18, t19, t20, t21, t22, t23, t24, t25, t26, t27, rfl, hk, g0, g1, g2, g3, g4, g5, g6, g7, g8, g9, g10⟩ K hK
    have p5 : b[5]? = some true := by simp [Region.binds] at he; simp [he]
    obtain rfl := g5 p5
    clear he
    have hw : IntKind.u8.wrap (48 + (n : Int) % 10) = 48 + (n : Int) % 10 := wr8 (by omega) (by omega)
    go_simp
    have hR := Below.refl u.heap.size u
    exact hK _ _ ⟨_, _, _, _, _, _, _, _, _, _, _, rfl, hk.trans (hR.mono hk.size), fun h => g0 (by simpa using h), fun h => g1 (by simpa using h), fun h => g2 (by simpa using h), fun h => g3 (by simpa using h), fun h => g4 (by simpa using h), fun h => g5 (by simpa using h), fun _ => rfl, fun h => (fun g => (by obtain ⟨B, e, hO⟩ := g; exact ⟨B, e, own_below hR hO⟩)) (g7 (by simpa using h)), fun h => g8 (by simpa using h), fun h => g9 (by simpa using h), fun h => g10 (by simpa using h)⟩
  case o1_7 =>
    rintro b ac u hbl hbi hcl he ⟨t2, t18, t19, t20, t21, t22, t23, t24, t25, t26, t27, rfl, hk, g0, g1, g2, g3, g4, g5, g6, g7, g8, g9, g10⟩ K hK
    have p6 : b[6]? = some true := by simp [Region.binds] at he; simp [he]
    obtain rfl := g6 p6
    clear he
    go_simp
    have hR := (Below.refl u.heap.size u).alloc (Nat.le_refl _) (.cells #[.int .u8 (48 + (n : Int) % 10)] 5)
    exact hK _ _ ⟨_, _, _, _, _, _, _, _, _, _, _, rfl, hk.trans (hR.mono hk.size), fun h => g0 (by simpa using h), fun h => g1 (by simpa using h), fun h => g2 (by simpa using h), fun h => g3 (by simpa using h), fun h => g4 (by simpa using h), fun h => g5 (by simpa using h), fun h => g6 (by simpa using h), fun _ => ⟨_, rfl, own_new _ _⟩, fun h => g8 (by simpa using h), fun h => g9 (by simpa using h), fun h => g10 (by simpa using h)⟩
  case o1_8 =>
    rintro b ac u hbl hbi hcl he ⟨t2, t18, t19, t20, t21, t22, t23, t24, t25, t26, t27, rfl, hk, g0, g1, g2, g3, g4, g5, g6, g7, g8, g9, g10⟩ K hK
    have p7 : b[7]? = some true := by simp [Region.binds] at he; simp [he]
    obtain ⟨B, rfl, hO⟩ := g7 p7
    clear he
    have hcv := conv_at (P := Tryd.prog) Tryd.underlying22 Tryd.underlying5 Tryd.underlying9 (k := n % 10) hO (by omega) (by omega)
    go_simp
    have hR := Below.refl u.heap.size u
    exact hK _ _ ⟨_, _, _, _, _, _, _, _, _, _, _, rfl, hk.trans (hR.mono hk.size), fun h => g0 (by simpa using h), fun h => g1 (by simpa using h), fun h => g2 (by simpa using h), fun h => g3 (by simpa using h), fun h => g4 (by simpa using h), fun h => g5 (by simpa using h), fun h => g6 (by simpa using h), fun h => (fun g => (by obtain ⟨B, e, hO⟩ := g; exact ⟨B, e, own_below hR hO⟩)) (g7 (by simpa using h)), fun _ => rfl, fun h => g9 (by simpa using h), fun h => g10 (by simpa using h)⟩
  case o1_9 =>
    rintro b ac u hbl hbi hcl he ⟨t2, t18, t19, t20, t21, t22, t23, t24, t25, t26, t27, rfl, hk, g0, g1, g2, g3, g4, g5, g6, g7, g8, g9, g10⟩ K hK
    have p2 : b[2]? = some true := by simp [Region.binds] at he; simp [he]
    have p8 : b[8]? = some true := by simp [Region.binds] at he; simp [he]
    obtain rfl := g2 p2
    obtain rfl := g8 p8
    clear he
    go_simp
    have hR := Below.refl u.heap.size u
    exact hK _ _ ⟨_, _, _, _, _, _, _, _, _, _, _, rfl, hk.trans (hR.mono hk.size), fun h => g0 (by simpa using h), fun h => g1 (by simpa using h), fun h => g2 (by simpa using h), fun h => g3 (by simpa using h), fun h => g4 (by simpa using h), fun h => g5 (by simpa using h), fun h => g6 (by simpa using h), fun h => (fun g => (by obtain ⟨B, e, hO⟩ := g; exact ⟨B, e, own_below hR hO⟩)) (g7 (by simpa using h)), fun h => g8 (by simpa using h), fun _ => rfl, fun h => g10 (by simpa using h)⟩
  case o1_10 =>
    rintro b ac u hbl hbi hcl he ⟨t2, t18, t19, t20, t21, t22, t23, t24, t25, t26, t27, rfl, hk, g0, g1, g2, g3, g4, g5, g6, g7, g8, g9, g10⟩ K hK
    have p9 : b[9]? = some true := by simp [Region.binds] at he; simp [he]
    obtain rfl := g9 p9
    clear he
    go_simp
    have hR := Below.refl u.heap.size u
    exact hK _ _ ⟨_, _, _, _, _, _, _, _, _, _, _, rfl, hk.trans (hR.mono hk.size), fun h => g0 (by simpa using h), fun h => g1 (by simpa using h), fun h => g2 (by simpa using h), fun h => g3 (by simpa using h), fun h => g4 (by simpa using h), fun h => g5 (by simpa using h), fun h => g6 (by simpa using h), fun h => (fun g => (by obtain ⟨B, e, hO⟩ := g; exact ⟨B, e, own_below hR hO⟩)) (g7 (by simpa using h)), fun h => g8 (by simpa using h), fun h => g9 (by simpa using h), fun _ => rfl⟩
  rintro ac u ⟨t2, t18, t19, t20, t21, t22, t23, t24, t25, t26, t27, rfl, hk, g0, g1, g2, g3, g4, g5, g6, g7, g8, g9, g10⟩
  replace g0 := g0 (by simp)
  replace g1 := g1 (by simp)
  replace g2 := g2 (by simp)
  replace g3 := g3 (by simp)
  replace g4 := g4 (by simp)
  replace g5 := g5 (by simp)
  replace g6 := g6 (by simp)
  replace g7 := g7 (by simp)
  replace g8 := g8 (by simp)
  replace g9 := g9 (by simp)
  replace g10 := g10 (by simp)
  obtain rfl := g10
  go_wp2_with fail
  exact bodyPost_ret (v := .string (txt [dig (n / 10)] ++ txt [dig (n % 10)])) (by simp only [results, Tryd.results68]; go_simp) rfl ⟨rfl, hk⟩
theorem formatInt_small (n : Nat) (h : n < 100) (w : World) :
    Calls Tryd.prog 112 #[.int .i64 n, .int .i64 10] w fun e w' => e = .returned (.string (txt (dec n))) ∧ w = w' := by
  go_enter Tryd.func112, Tryd.ntmps112
  go_wp2_with (go_at_call 114; refine (small_any n h _).mono ?_; rintro e w' ⟨rfl, rfl⟩)
  go_ret
  exact ⟨rfl, rfl⟩
theorem iitoa_any (n : Nat) (h : n < 100) (w : World) :
    Calls Tryd.prog 108 #[.int .i64 n] w fun e w' => e = .returned (.string (txt (dec n))) ∧ w = w' := by
  go_enter Tryd.func108, Tryd.ntmps108
  go_wp2_with (go_at_call 112; refine (formatInt_small n h _).mono ?_; rintro e w' ⟨rfl, rfl⟩)
  go_ret
  exact ⟨rfl, rfl⟩
theorem itoa_any (n : Nat) (h : n < 100) (w : World) :
    Calls Tryd.prog 94 #[.int .i64 n] w fun e w' => e = .returned (.string (txt (dec n))) ∧ w = w' := by
  go_enter Tryd.func94, Tryd.ntmps94
  go_wp2_with (go_at_call 108; refine (iitoa_any n h _).mono ?_; rintro e w' ⟨rfl, rfl⟩)
  go_ret
  exact ⟨rfl, rfl⟩
set_option maxHeartbeats 1000000 in
theorem slabelText_any (s v : Int) (w : World) :
    Calls Tryd.prog 99 #[.agg #[.int .i64 s, .int .i64 v]] w fun e w' => e = .returned (.string (txt (lblTxt s v))) ∧ Below w.heap.size w w' := by
  have tt : Below w.heap.size w w := Below.refl _ _
  have hA := own_new w (.cells #[.int .i64 s, .int .i64 v] 32)
  cases e1 : lblOk s v
  · have e2 : lblTxt s v = [] := by simp [lblTxt, e1]
    rw [e2]
    go_enter Tryd.func99, Tryd.ntmps99
    go_wp2_with fail
    refine (slabelOk_any _ _ _).mono ?_
    rintro e w' ⟨rfl, hb⟩
    (try clear cc_hA ff_hA); (try clear zz_hA zy_hA)
    have zt := tt.size
    replace tt : Below w.heap.size w w' := by (refine Below.trans ?_ (hb.mono ?_)); (all_goals (repeat (first | with_reducible exact tt | (with_reducible refine Below.setCell ?_ ?_ _) | (with_reducible refine Below.alloc ?_ ?_ _) | with_reducible refine Below.drew ?_)); (all_goals (first | omega | (simp <;> omega))))
    clear zt
    replace hA := own_below hb (by repeat (first | exact hA | apply own_alloc))
    obtain ⟨cc_hA, ff_hA⟩ := own_cells hA; have zz_hA := own_lt hA; have zy_hA := Nat.lt_add_right 1 (own_lt hA)
    clear hb
    go_wp2_with fail
    go_ret
    exact ⟨rfl, tt⟩
  · obtain ⟨b1, b2, b3, b4⟩ := lblOk_bd e1
    obtain ⟨m, rfl⟩ := Int.eq_ofNat_of_zero_le b1
    obtain ⟨n, rfl⟩ := Int.eq_ofNat_of_zero_le b3
    have e2 : txt (lblTxt m n) = txt (dec m) ++ txt [47] ++ txt (dec n) := by simp [lblTxt, e1, txt_append]
    rw [e2]
    go_enter Tryd.func99, Tryd.ntmps99
    go_wp2_with fail
    refine (slabelOk_any _ _ _).mono ?_
    rintro e w' ⟨rfl, hb⟩
    (try clear cc_hA ff_hA); (try clear zz_hA zy_hA)
    have zt := tt.size
    replace tt : Below w.heap.size w w' := by (refine Below.trans ?_ (hb.mono ?_)); (all_goals (repeat (first | with_reducible exact tt | (with_reducible refine Below.setCell ?_ ?_ _) | (with_reducible refine Below.alloc ?_ ?_ _) | with_reducible refine Below.drew ?_)); (all_goals (first | omega | (simp <;> omega))))
    clear zt
    replace hA := own_below hb (by repeat (first | exact hA | apply own_alloc))
    obtain ⟨cc_hA, ff_hA⟩ := own_cells hA; have zz_hA := own_lt hA; have zy_hA := Nat.lt_add_right 1 (own_lt hA)
    clear hb
    go_wp2_with fail
    have z1 := dec_sz m
    have z2 := dec_sz n
    have q1 : ¬ 9223372036854775807 < (txt (dec m)).size + 1 := by omega
    have q2 : ¬ 9223372036854775807 < (txt (dec m)).size + 1 + (txt (dec n)).size := by omega
    clear z1 z2
    refine named (p := fun W => Code.wp _ _ _ _ W) _ ?_
    intro W hW
    (try clear cc_hA ff_hA); (try clear zz_hA zy_hA)
    have zt := tt.size
    replace tt : Below w.heap.size w W := by
      rw [← hW]
      (repeat (first | with_reducible exact tt | (with_reducible refine Below.setCell ?_ ?_ _) | (with_reducible refine Below.alloc ?_ ?_ _) | with_reducible refine Below.drew ?_)); (all_goals (first | omega | (simp <;> omega)))
    replace hA := own_eq hW (by repeat (first | exact hA | apply own_alloc))
    clear hW zt
    refine wp_region_quiet_below (by kernel_rfl) (by kernel_rfl) ?_
    repeat (first
      | (refine qskip rfl (fun K hK => ?_); go_simp; refine hK _ ?_; clear hK K)
      | (apply qval rfl; (case h => (intro u hu; obtain ⟨_, _⟩ := own_cells (own_below hu hA); go_simp; exact rfl)); (intro K hK; go_simp; refine hK _ ?_; clear hK K))
      | (apply qcall rfl; (case h => (intro u hu; go_simp; exact ⟨rfl, rfl⟩)); (case hc => (intro u hu; with_reducible exact Calls.in_below hu (l6Dec_any m (by omega) _))); (intro K hK; go_simp; refine hK _ ?_; clear hK K))
      | (apply qcall rfl; (case h => (intro u hu; go_simp; exact ⟨rfl, rfl⟩)); (case hc => (intro u hu; with_reducible exact Calls.in_below hu (l6Dec_any n (by omega) _))); (intro K hK; go_simp; refine hK _ ?_; clear hK K)))
    refine wpQuiet_nil ?_
    intro w' hu
    replace tt := tt.trans (hu.mono tt.size)
    replace hA := own_below hu hA
    obtain ⟨cc_hA, ff_hA⟩ := own_cells hA; have zz_hA := own_lt hA; have zy_hA := Nat.lt_add_right 1 (own_lt hA)
    clear hu
    go_wp2_with fail
    go_ret
    exact ⟨rfl, tt⟩
set_option maxHeartbeats 1000000 in
theorem labelText_any (s v : Int) (w : World) :
    Calls Tryd.prog 96 #[.agg #[.int .i64 s, .int .i64 v]] w fun e w' => e = .returned (.string (txt (lblTxt s v))) ∧ Below w.heap.size w w' := by
  have tt : Below w.heap.size w w := Below.refl _ _
  have hA := own_new w (.cells #[.int .i64 s, .int .i64 v] 32)
  cases e1 : lblOk s v
  · have e2 : lblTxt s v = [] := by simp [lblTxt, e1]
    rw [e2]
    go_enter Tryd.func96, Tryd.ntmps96
    go_wp2_with fail
    refine (labelOk_any _ _ _).mono ?_
    rintro e w' ⟨rfl, hb⟩
    (try clear cc_hA ff_hA); (try clear zz_hA zy_hA)
    have zt := tt.size
    replace tt : Below w.heap.size w w' := by (refine Below.trans ?_ (hb.mono ?_)); (all_goals (repeat (first | with_reducible exact tt | (with_reducible refine Below.setCell ?_ ?_ _) | (with_reducible refine Below.alloc ?_ ?_ _) | with_reducible refine Below.drew ?_)); (all_goals (first | omega | (simp <;> omega))))
    clear zt
    replace hA := own_below hb (by repeat (first | exact hA | apply own_alloc))
    obtain ⟨cc_hA, ff_hA⟩ := own_cells hA; have zz_hA := own_lt hA; have zy_hA := Nat.lt_add_right 1 (own_lt hA)
    clear hb
    go_wp2_with fail
    go_ret
    exact ⟨rfl, tt⟩
  · obtain ⟨b1, b2, b3, b4⟩ := lblOk_bd e1
    obtain ⟨m, rfl⟩ := Int.eq_ofNat_of_zero_le b1
    obtain ⟨n, rfl⟩ := Int.eq_ofNat_of_zero_le b3
    have e2 : txt (lblTxt m n) = txt (dec m) ++ txt [47] ++ txt (dec n) := by simp [lblTxt, e1, txt_append]
    rw [e2]
    go_enter Tryd.func96, Tryd.ntmps96
    go_wp2_with fail
    refine (labelOk_any _ _ _).mono ?_
    rintro e w' ⟨rfl, hb⟩
    (try clear cc_hA ff_hA); (try clear zz_hA zy_hA)
    have zt := tt.size
    replace tt : Below w.heap.size w w' := by (refine Below.trans ?_ (hb.mono ?_)); (all_goals (repeat (first | with_reducible exact tt | (with_reducible refine Below.setCell ?_ ?_ _) | (with_reducible refine Below.alloc ?_ ?_ _) | with_reducible refine Below.drew ?_)); (all_goals (first | omega | (simp <;> omega))))
    clear zt
    replace hA := own_below hb (by repeat (first | exact hA | apply own_alloc))
    obtain ⟨cc_hA, ff_hA⟩ := own_cells hA; have zz_hA := own_lt hA; have zy_hA := Nat.lt_add_right 1 (own_lt hA)
    clear hb
    go_wp2_with fail
    have z1 := dec_sz m
    have z2 := dec_sz n
    have q1 : ¬ 9223372036854775807 < (txt (dec m)).size + 1 := by omega
    have q2 : ¬ 9223372036854775807 < (txt (dec m)).size + 1 + (txt (dec n)).size := by omega
    clear z1 z2
    refine named (p := fun W => Code.wp _ _ _ _ W) _ ?_
    intro W hW
    (try clear cc_hA ff_hA); (try clear zz_hA zy_hA)
    have zt := tt.size
    replace tt : Below w.heap.size w W := by
      rw [← hW]
      (repeat (first | with_reducible exact tt | (with_reducible refine Below.setCell ?_ ?_ _) | (with_reducible refine Below.alloc ?_ ?_ _) | with_reducible refine Below.drew ?_)); (all_goals (first | omega | (simp <;> omega)))
    replace hA := own_eq hW (by repeat (first | exact hA | apply own_alloc))
    clear hW zt
    refine wp_region_quiet_below (by kernel_rfl) (by kernel_rfl) ?_
    repeat (first
      | (refine qskip rfl (fun K hK => ?_); go_simp; refine hK _ ?_; clear hK K)
      | (apply qval rfl; (case h => (intro u hu; obtain ⟨_, _⟩ := own_cells (own_below hu hA); go_simp; exact rfl)); (intro K hK; go_simp; refine hK _ ?_; clear hK K))
      | (apply qcall rfl; (case h => (intro u hu; go_simp; exact ⟨rfl, rfl⟩)); (case hc => (intro u hu; with_reducible exact Calls.in_same hu (itoa_any m (by omega) _))); (intro K hK; go_simp; refine hK _ ?_; clear hK K))
      | (apply qcall rfl; (case h => (intro u hu; go_simp; exact ⟨rfl, rfl⟩)); (case hc => (intro u hu; with_reducible exact Calls.in_same hu (itoa_any n (by omega) _))); (intro K hK; go_simp; refine hK _ ?_; clear hK K)))
    refine wpQuiet_nil ?_
    intro w' hu
    replace tt := tt.trans (hu.mono tt.size)
    replace hA := own_below hu hA
    obtain ⟨cc_hA, ff_hA⟩ := own_cells hA; have zz_hA := own_lt hA; have zy_hA := Nat.lt_add_right 1 (own_lt hA)
    clear hu
    go_wp2_with fail
    go_ret
    exact ⟨rfl, tt⟩
end Go.Proofs.YtcgmnpppdoadhaaDoor
