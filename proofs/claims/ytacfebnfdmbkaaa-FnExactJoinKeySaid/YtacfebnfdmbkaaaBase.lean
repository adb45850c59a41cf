/- Plain lemmas on numbers, bytes and rounds that the pure statements of this seat use: no program in sight. -/
import Derived.Test.YtacfebnfdmbkaaaWMore
import Derived.Laws.BitsLemmas
namespace Go.Proofs.Ytacfebnfdmbkaaa.Base
open Go.RowKit Go.Proofs.YtacfebnfdmbkaaaW.PrintWords Go.Proofs.YtacfebnfdmbkaaaW.PrintLast Go.Proofs.YtacfebnfdmbkaaaW.PrintMore

theorem w64 {x : Int} (h0 : -9223372036854775808 ≤ x) (h1 : x ≤ 9223372036854775807) : wrap64 x = x := by unfold wrap64; omega
theorem wf_i64 {a : Int} (h : (Lit.int .i64 a).wf = true) : -9223372036854775808 ≤ a ∧ a ≤ 9223372036854775807 := by
  simp only [Lit.wf, IntKind.min, IntKind.max, IntKind.signed, IntKind.bits, Bool.and_eq_true, decide_eq_true_eq, if_true] at h
  omega
theorem wf_u8 {a : Int} (h : (Lit.int .u8 a).wf = true) : 0 ≤ a ∧ a ≤ 255 := by
  simp [Lit.wf, IntKind.min, IntKind.max, IntKind.signed, IntKind.bits] at h
  omega
/-! ### bits -/
theorem i64_wrap_nat {n : Nat} (h : n < 2 ^ 63) : IntKind.i64.wrap (n : Int) = (n : Int) := by
  rw [IntKind.wrap_i64]; omega
theorem band_nat (a b : Nat) (ha : a < 2 ^ 63) (hb : b < 2 ^ 63) : Go.bits .and .i64 (a : Int) (b : Int) = ((a &&& b : Nat) : Int) := by
  show IntKind.i64.wrap (((BitVec.ofInt 64 (a : Int) &&& BitVec.ofInt 64 (b : Int)).toNat : Nat) : Int) = _
  rw [BitVec.toNat_and, BitVec.ofInt_natCast, BitVec.ofInt_natCast, BitVec.toNat_ofNat, BitVec.toNat_ofNat, Nat.mod_eq_of_lt (by omega), Nat.mod_eq_of_lt (by omega)]
  exact i64_wrap_nat (Nat.and_lt_two_pow _ hb)
theorem bor_nat (a b : Nat) (ha : a < 2 ^ 63) (hb : b < 2 ^ 63) : Go.bits .or .i64 (a : Int) (b : Int) = ((a ||| b : Nat) : Int) := by
  show IntKind.i64.wrap (((BitVec.ofInt 64 (a : Int) ||| BitVec.ofInt 64 (b : Int)).toNat : Nat) : Int) = _
  rw [BitVec.toNat_or, BitVec.ofInt_natCast, BitVec.ofInt_natCast, BitVec.toNat_ofNat, BitVec.toNat_ofNat, Nat.mod_eq_of_lt (by omega), Nat.mod_eq_of_lt (by omega)]
  exact i64_wrap_nat (Nat.or_lt_two_pow ha hb)
theorem bxor_nat (a b : Nat) (ha : a < 2 ^ 63) (hb : b < 2 ^ 63) : Go.bits .xor .i64 (a : Int) (b : Int) = ((a ^^^ b : Nat) : Int) := by
  show IntKind.i64.wrap (((BitVec.ofInt 64 (a : Int) ^^^ BitVec.ofInt 64 (b : Int)).toNat : Nat) : Int) = _
  rw [BitVec.toNat_xor, BitVec.ofInt_natCast, BitVec.ofInt_natCast, BitVec.toNat_ofNat, BitVec.toNat_ofNat, Nat.mod_eq_of_lt (by omega), Nat.mod_eq_of_lt (by omega)]
  exact i64_wrap_nat (Nat.xor_lt_two_pow ha hb)
theorem bnot_nat (n : Nat) (h : n < 4294967296) : Go.bits .xor .i64 (-1) (n : Int) = -1 - (n : Int) := by
  show IntKind.i64.wrap (((BitVec.ofInt 64 (-1) ^^^ BitVec.ofInt 64 (n : Int)).toNat : Nat) : Int) = _
  have e : (BitVec.ofInt 64 (-1) ^^^ BitVec.ofInt 64 (n : Int)).toNat = 18446744073709551615 - n := by
    rw [show BitVec.ofInt 64 (-1) = BitVec.allOnes 64 from rfl, BitVec.ofInt_natCast, BitVec.allOnes_xor, BitVec.toNat_not, BitVec.toNat_ofNat, Nat.mod_eq_of_lt (by omega)]
  rw [e]
  rw [IntKind.wrap_i64]; omega
theorem toNat_ofInt64 (x : Int) : (BitVec.ofInt 64 x).toNat = (x % 18446744073709551616).toNat := by
  rw [BitVec.toNat_ofInt]; rfl
/-- The words' mask, whatever the sign. -/
theorem band_mask (x : Int) : Go.bits .and .i64 x 4294967295 = x % 4294967296 := by
  show IntKind.i64.wrap (((BitVec.ofInt 64 x &&& BitVec.ofInt 64 4294967295).toNat : Nat) : Int) = _
  have e : (BitVec.ofInt 64 4294967295).toNat = 2 ^ 32 - 1 := by rfl
  rw [BitVec.toNat_and, e, Nat.and_two_pow_sub_one_eq_mod, toNat_ofInt64, i64_wrap_nat (by omega)]
  omega
theorem band_one (x : Int) : Go.bits .and .i64 x 1 = x % 2 := by
  show IntKind.i64.wrap (((BitVec.ofInt 64 x &&& BitVec.ofInt 64 1).toNat : Nat) : Int) = _
  have e : (BitVec.ofInt 64 1).toNat = 2 ^ 1 - 1 := by rfl
  rw [BitVec.toNat_and, e, Nat.and_two_pow_sub_one_eq_mod, toNat_ofInt64, i64_wrap_nat (by omega)]
  omega
theorem bxor8_nat (a b : Nat) (ha : a < 2 ^ 8) (hb : b < 2 ^ 8) : Go.bits .xor .u8 (a : Int) (b : Int) = ((a ^^^ b : Nat) : Int) := by
  show IntKind.u8.wrap (((BitVec.ofInt 8 (a : Int) ^^^ BitVec.ofInt 8 (b : Int)).toNat : Nat) : Int) = _
  have h := Nat.xor_lt_two_pow ha hb
  rw [BitVec.toNat_xor, BitVec.ofInt_natCast, BitVec.ofInt_natCast, BitVec.toNat_ofNat, BitVec.toNat_ofNat, Nat.mod_eq_of_lt (by omega), Nat.mod_eq_of_lt (by omega), IntKind.wrap_u8]
  omega
def xr (a b : Int) : Int := ((a.toNat ^^^ b.toNat : Nat) : Int)
def an (a b : Int) : Int := ((a.toNat &&& b.toNat : Nat) : Int)
def Wd (a : Int) : Prop := 0 ≤ a ∧ a ≤ 4294967295
theorem bxor_eq {a b : Int} (ha : 0 ≤ a) (ha1 : a ≤ 4611686018427387904) (hb : 0 ≤ b) (hb1 : b ≤ 4611686018427387904) : Go.bits .xor .i64 a b = xr a b := by
  obtain ⟨x, rfl⟩ := Int.eq_ofNat_of_zero_le ha
  obtain ⟨y, rfl⟩ := Int.eq_ofNat_of_zero_le hb
  rw [bxor_nat x y (by omega) (by omega)]; rfl
theorem band_eq {a b : Int} (ha : 0 ≤ a) (ha1 : a ≤ 4611686018427387904) (hb : 0 ≤ b) (hb1 : b ≤ 4611686018427387904) : Go.bits .and .i64 a b = an a b := by
  obtain ⟨x, rfl⟩ := Int.eq_ofNat_of_zero_le ha
  obtain ⟨y, rfl⟩ := Int.eq_ofNat_of_zero_le hb
  rw [band_nat x y (by omega) (by omega)]; rfl
theorem bxor8_eq {a b : Int} (ha : 0 ≤ a ∧ a ≤ 255) (hb : 0 ≤ b ∧ b ≤ 255) : Go.bits .xor .u8 a b = xr a b := by
  obtain ⟨x, rfl⟩ := Int.eq_ofNat_of_zero_le ha.1
  obtain ⟨y, rfl⟩ := Int.eq_ofNat_of_zero_le hb.1
  rw [bxor8_nat x y (by omega) (by omega)]; rfl
theorem xr_ne {a m : Int} (ha : 0 ≤ a) (hm : 1 ≤ m) : xr a m ≠ a := by
  intro h
  unfold xr at h
  have h2 : a.toNat ^^^ m.toNat = a.toNat := by omega
  have h3 : a.toNat ^^^ (a.toNat ^^^ m.toNat) = m.toNat := by rw [← Nat.xor_assoc, Nat.xor_self, Nat.zero_xor]
  rw [h2, Nat.xor_self] at h3
  omega
theorem Wd.xr {a b : Int} (ha : Wd a) (hb : Wd b) : Wd (xr a b) := by
  obtain ⟨h0, h1⟩ := ha
  obtain ⟨h2, h3⟩ := hb
  have h := Nat.xor_lt_two_pow (n := 32) (x := a.toNat) (y := b.toNat) (by omega) (by omega)
  unfold Base.xr Wd
  omega
theorem Wd.an {a b : Int} (ha : Wd a) (hb : Wd b) : Wd (an a b) := by
  obtain ⟨h0, h1⟩ := ha
  obtain ⟨h2, h3⟩ := hb
  have h := Nat.and_lt_two_pow (n := 32) a.toNat (y := b.toNat) (by omega)
  unfold Base.an Wd
  omega
theorem Wd.bxor {a b : Int} (ha : Wd a) (hb : Wd b) : Go.bits .xor .i64 a b = Base.xr a b := bxor_eq ha.1 (by have := ha.2; omega) hb.1 (by have := hb.2; omega)
theorem Wd.band {a b : Int} (ha : Wd a) (hb : Wd b) : Go.bits .and .i64 a b = Base.an a b := band_eq ha.1 (by have := ha.2; omega) hb.1 (by have := hb.2; omega)
theorem Wd.mod (a : Int) : Wd (a % 4294967296) := by unfold Wd; omega
/-! ### lists -/
theorem rd_nat (l : List Int) (i : Nat) (h : i < l.length) : rd l (i : Int) = l[i] := by
  unfold rd
  rw [Int.toNat_natCast, List.getD_eq_getElem?_getD, List.getElem?_eq_getElem h]; rfl
theorem rd_mem (l : List Int) (i : Int) (h0 : 0 ≤ i) (h : i < (l.length : Int)) : rd l i ∈ l := by
  obtain ⟨n, rfl⟩ := Int.eq_ofNat_of_zero_le h0
  rw [rd_nat l n (by omega)]; exact List.getElem_mem _
def Bytes (l : List Int) : Prop := ∀ x ∈ l, 0 ≤ x ∧ x ≤ 255
theorem Bytes.of_wf {l : List Int} (h : ∀ x ∈ l, (Lit.int .u8 x).wf = true) : Bytes l := fun x hx => wf_u8 (h x hx)
theorem Bytes.rd {l : List Int} (h : Bytes l) (i : Int) : 0 ≤ rd l i ∧ rd l i ≤ 255 := by
  show 0 ≤ l.getD i.toNat 0 ∧ l.getD i.toNat 0 ≤ 255
  rw [List.getD_eq_getElem?_getD]
  cases e : l[i.toNat]? with
  | none => simp
  | some x => exact h x (List.mem_of_getElem? e)
theorem Bytes.nil : Bytes [] := fun _ h => by simp at h
theorem Bytes.append {a b : List Int} (ha : Bytes a) (hb : Bytes b) : Bytes (a ++ b) := fun x h => by
  rcases List.mem_append.1 h with h | h
  · exact ha x h
  · exact hb x h
theorem Bytes.take {a : List Int} (ha : Bytes a) (n : Nat) : Bytes (a.take n) := fun x h => ha x (List.mem_of_mem_take h)
theorem Bytes.drop {a : List Int} (ha : Bytes a) (n : Nat) : Bytes (a.drop n) := fun x h => ha x (List.mem_of_mem_drop h)
theorem Bytes.replicate (n : Nat) : Bytes (List.replicate n 0) := fun x h => by rw [List.eq_of_mem_replicate h]; decide
theorem strOf_list (a : List Int) : (strOfNums a).toList = a.map fun n => UInt8.ofNat n.toNat := by
  rw [ByteArray.toList_eq, strOfNums_data]
theorem strOf_inj {a b : List Int} (ha : Bytes a) (hb : Bytes b) (h : (strOfNums a).toList = (strOfNums b).toList) : a = b := by
  rw [strOf_list, strOf_list] at h
  have inv : ∀ l : List Int, Bytes l → (l.map fun n => UInt8.ofNat n.toNat).map (fun u => (u.toNat : Int)) = l := by
    intro l hl
    rw [List.map_map]
    conv => rhs; rw [← List.map_id l]
    refine List.map_congr_left fun x hx => ?_
    obtain ⟨h0, h1⟩ := hl x hx
    simp only [Function.comp, id, UInt8.toNat_ofNat']
    omega
  rw [← inv a ha, ← inv b hb, h]
theorem strOf_beq {a b : List Int} (ha : Bytes a) (hb : Bytes b) : ((strOfNums a).toList == (strOfNums b).toList) = (a == b) := by
  rw [Bool.eq_iff_iff, beq_iff_eq, beq_iff_eq]
  exact ⟨strOf_inj ha hb, fun h => by rw [h]⟩
/-! ### rounds -/
theorem Ev.ret {α : Type} {g : Nat → Option α} {r : α} (h : ∀ k, g (k + 1) = some r) : Ev g r := Ev.step h (Ev.now r)
theorem Ev.pos {α : Type} {c : Prop} [Decidable c] {f g : Nat → Option α} {r : α} (h : c) (k : Ev f r) : Ev (fun n => if c then f n else g n) r := by
  obtain ⟨K, k⟩ := k
  exact ⟨K, fun n hn => by simp only [if_pos h]; exact k n hn⟩
theorem Ev.neg {α : Type} {c : Prop} [Decidable c] {f g : Nat → Option α} {r : α} (h : ¬ c) (k : Ev g r) : Ev (fun n => if c then f n else g n) r := by
  obtain ⟨K, k⟩ := k
  exact ⟨K, fun n hn => by simp only [if_neg h]; exact k n hn⟩
theorem Ev.all {α : Type} {g : Nat → Option α} {r : α} (h : ∀ k, g k = some r) : Ev g r := ⟨0, fun k _ => h k⟩
/-! ### numbers in bounds, words -/
def inB (n lo hi : Int) : Bool := decide (lo ≤ n ∧ n ≤ hi)
def isWd (n : Int) : Bool := inB n 0 4294967295
theorem inB_true {n lo hi : Int} : inB n lo hi = true ↔ lo ≤ n ∧ n ≤ hi := by simp [inB]
theorem inB_false {n lo hi : Int} : inB n lo hi = false ↔ ¬ (lo ≤ n ∧ n ≤ hi) := by unfold inB; exact decide_eq_false_iff_not
theorem isWd_true {n : Int} : isWd n = true ↔ Wd n := by unfold isWd Wd; exact inB_true
theorem ge_le {a b c : Int} : (if a ≥ b then some (decide (a ≤ c)) else some false) = some (inB a b c) := by
  unfold inB
  split
  · rename_i h
    rw [Option.some.injEq, Bool.eq_iff_iff, decide_eq_true_eq, decide_eq_true_eq]; omega
  · rename_i h
    rw [Option.some.injEq, Bool.eq_iff_iff, decide_eq_true_eq]; simp only [Bool.false_eq_true, false_iff]; omega
/-! ### marks -/
def mks (a : Int) : Nat → List Int
  | 0 => []
  | n + 1 => a % 256 :: mks (a + 1) n
theorem mks_length (a : Int) (n : Nat) : (mks a n).length = n := by
  induction n generalizing a with
  | zero => rfl
  | succ n ih => simp [mks, ih]
theorem mks_snoc (a : Int) (n : Nat) : mks a (n + 1) = mks a n ++ [(a + n) % 256] := by
  induction n generalizing a with
  | zero => simp [mks]
  | succ n ih =>
    rw [mks, ih (a + 1)]
    simp only [mks, List.cons_append]
    have : a + 1 + (n : Int) = a + ((n + 1 : Nat) : Int) := by omega
    rw [this]
theorem mks_get (a : Int) (n i : Nat) (h : i < n) : (mks a n)[i]'(by rw [mks_length]; exact h) = (a + i) % 256 := by
  induction n generalizing a i with
  | zero => omega
  | succ n ih =>
    cases i with
    | zero => simp [mks]
    | succ i =>
      simp only [mks, List.getElem_cons_succ]
      rw [ih (a + 1) i (by omega)]
      have : a + 1 + (i : Int) = a + ((i + 1 : Nat) : Int) := by omega
      rw [this]
def mkI (a : Int) : Nat → List Int
  | 0 => []
  | n + 1 => a :: mkI (a + 1) n
theorem mkI_length (a : Int) (n : Nat) : (mkI a n).length = n := by
  induction n generalizing a with
  | zero => rfl
  | succ n ih => simp [mkI, ih]
theorem mkI_snoc (a : Int) (n : Nat) : mkI a (n + 1) = mkI a n ++ [a + n] := by
  induction n generalizing a with
  | zero => simp [mkI]
  | succ n ih =>
    rw [mkI, ih (a + 1)]
    simp only [mkI, List.cons_append]
    have : a + 1 + (n : Int) = a + ((n + 1 : Nat) : Int) := by omega
    rw [this]
theorem mkI_get (a : Int) (n i : Nat) (h : i < n) : (mkI a n)[i]'(by rw [mkI_length]; exact h) = a + i := by
  induction n generalizing a i with
  | zero => omega
  | succ n ih =>
    cases i with
    | zero => simp [mkI]
    | succ i =>
      simp only [mkI, List.getElem_cons_succ]
      rw [ih (a + 1) i (by omega)]
      have : a + 1 + (i : Int) = a + ((i + 1 : Nat) : Int) := by omega
      rw [this]
/-! ### turning words round -/
theorem bor_mask (x y : Int) : Go.bits .or .i64 x y % 4294967296 = (((x % 4294967296).toNat ||| (y % 4294967296).toNat : Nat) : Int) := by
  have h : Go.bits .or .i64 x y = IntKind.i64.wrap (((BitVec.ofInt 64 x ||| BitVec.ofInt 64 y).toNat : Nat) : Int) := rfl
  have e : ∀ n : Nat, IntKind.i64.wrap (n : Int) % 4294967296 = ((n % 2 ^ 32 : Nat) : Int) := by
    intro n
    rw [IntKind.wrap_i64]; omega
  rw [h, e, BitVec.toNat_or, Nat.or_mod_two_pow, toNat_ofInt64, toNat_ofInt64]
  have f : ∀ z : Int, (z % 18446744073709551616).toNat % 2 ^ 32 = (z % 4294967296).toNat := by
    intro z; omega
  rw [f, f]
def rot (w : Int) (n : Nat) : Int := ((w.toNat / 2 ^ n + w.toNat % 2 ^ n * 2 ^ (32 - n) : Nat) : Int)
theorem two_pow_split {n : Nat} (h : n ≤ 32) : 2 ^ n * 2 ^ (32 - n) = 4294967296 := by
  rw [← Nat.pow_add, Nat.add_sub_cancel' h]
theorem rot_nat_lt {a n : Nat} (ha : a < 4294967296) (h : n ≤ 32) : a / 2 ^ n < 2 ^ (32 - n) ∧ a % 2 ^ n * 2 ^ (32 - n) + 2 ^ (32 - n) ≤ 4294967296 := by
  have e := two_pow_split h
  have hp : 0 < 2 ^ n := Nat.two_pow_pos n
  constructor
  · rw [Nat.div_lt_iff_lt_mul hp, Nat.mul_comm, e]; exact ha
  · have := Nat.mul_le_mul_right (2 ^ (32 - n)) (Nat.succ_le_of_lt (Nat.mod_lt a hp))
    rw [e, Nat.succ_mul] at this
    exact this
theorem Wd.rot {w : Int} (hw : Wd w) {n : Nat} (h : n ≤ 32) : Wd (rot w n) := by
  obtain ⟨_, _⟩ := hw
  obtain ⟨h1, h2⟩ := rot_nat_lt (a := w.toNat) (by omega) h
  have h3 : w.toNat / 2 ^ n + w.toNat % 2 ^ n * 2 ^ (32 - n) ≤ 4294967295 := by omega
  exact ⟨Int.natCast_nonneg _, Int.ofNat_le.2 h3⟩
theorem rot_or {a n : Nat} (ha : a < 4294967296) (h : n ≤ 32) : (a / 2 ^ n) % 4294967296 ||| (a * 2 ^ (32 - n)) % 4294967296 = a / 2 ^ n + a % 2 ^ n * 2 ^ (32 - n) := by
  have e := two_pow_split h
  obtain ⟨h1, h2⟩ := rot_nat_lt ha h
  have h3 : (a * 2 ^ (32 - n)) % 4294967296 = a % 2 ^ n * 2 ^ (32 - n) := by rw [← e, Nat.mul_mod_mul_right]
  rw [h3, Nat.mod_eq_of_lt (Nat.lt_of_le_of_lt (Nat.div_le_self _ _) ha), Nat.or_comm, Nat.mul_comm (a % 2 ^ n), ← Nat.two_pow_add_eq_or_of_lt h1, Nat.add_comm]
/-! ### a word out of four bytes -/
def at4 (l : List Int) (i : Int) : Int := rd l i * 16777216 + rd l (i + 1) * 65536 + rd l (i + 2) * 256 + rd l (i + 3)
theorem Bytes.at4 {l : List Int} (h : Bytes l) (i : Int) : Wd (at4 l i) := by
  have h0 := h.rd i
  have h1 := h.rd (i + 1)
  have h2 := h.rd (i + 2)
  have h3 := h.rd (i + 3)
  unfold Base.at4 Wd
  omega
theorem bor_add (i : Nat) {x y : Int} (hx : 0 ≤ x) (hx1 : x < 4611686018427387904) (hm : x % 2 ^ i = 0) (hy : 0 ≤ y) (hy1 : y < 2 ^ i) (hy2 : y < 4611686018427387904) : Go.bits .or .i64 x y = x + y :=
  bits_join .i64 63 (by decide) (fun n h0 h1 => by rw [IntKind.wrap_i64]; omega) i x y hx hm (by omega) hy hy1 (by omega)
theorem pack_byte {a b c d : Int} (ha : 0 ≤ a ∧ a ≤ 255) (hb : 0 ≤ b ∧ b ≤ 255) (hc : 0 ≤ c ∧ c ≤ 255) (hd : 0 ≤ d ∧ d ≤ 255) : (a * 16777216 + b * 65536 + c * 256 + d) / 16777216 % 256 = a ∧ (a * 16777216 + b * 65536 + c * 256 + d) / 65536 % 256 = b ∧ (a * 16777216 + b * 65536 + c * 256 + d) / 256 % 256 = c ∧ (a * 16777216 + b * 65536 + c * 256 + d) % 256 = d := by omega
def pack4 (w : Int) : List Int := [w / 16777216 % 256, w / 65536 % 256, w / 256 % 256, w % 256]
theorem pack4_bytes (w : Int) : Bytes (pack4 w) := by
  intro x hx
  simp only [pack4, List.mem_cons, List.not_mem_nil, or_false] at hx
  rcases hx with rfl | rfl | rfl | rfl <;> omega
theorem at4_pack4 {w : Int} (h : Wd w) : at4 (pack4 w) 0 = w := by
  obtain ⟨h0, h1⟩ := h
  show w / 16777216 % 256 * 16777216 + w / 65536 % 256 * 65536 + w / 256 % 256 * 256 + w % 256 = w
  omega
theorem pack4_at4 {l : List Int} (hb : Bytes l) (i : Nat) (h : i + 4 ≤ l.length) : pack4 (at4 l (i : Int)) = (l.take (i + 4)).drop i := by
  have e0 := rd_nat l i (by omega)
  have e1 := rd_nat l (i + 1) (by omega)
  have e2 := rd_nat l (i + 2) (by omega)
  have e3 := rd_nat l (i + 3) (by omega)
  obtain ⟨p0, p1, p2, p3⟩ := pack_byte (hb.rd (i : Int)) (hb.rd ((i + 1 : Nat) : Int)) (hb.rd ((i + 2 : Nat) : Int)) (hb.rd ((i + 3 : Nat) : Int))
  have ea : at4 l (i : Int) = rd l (i : Int) * 16777216 + rd l ((i + 1 : Nat) : Int) * 65536 + rd l ((i + 2 : Nat) : Int) * 256 + rd l ((i + 3 : Nat) : Int) := rfl
  unfold pack4
  rw [ea, p0, p1, p2, p3, e0, e1, e2, e3]
  rw [List.drop_take, show i + 4 - i = 4 by omega, List.drop_eq_getElem_cons (i := i) (by omega), List.drop_eq_getElem_cons (i := i + 1) (by omega), List.drop_eq_getElem_cons (i := i + 1 + 1) (by omega), List.drop_eq_getElem_cons (i := i + 1 + 1 + 1) (by omega)]
  rfl
theorem rot_back {w : Int} (hw : Wd w) {n : Nat} (h0 : 1 ≤ n) (h1 : n ≤ 31) : rot (rot w n) (32 - n) = w := by
  obtain ⟨hw0, hw1⟩ := hw
  obtain ⟨a, rfl⟩ := Int.eq_ofNat_of_zero_le hw0
  have e := two_pow_split (n := n) (by omega)
  obtain ⟨l1, l2⟩ := rot_nat_lt (a := a) (n := n) (by omega) (by omega)
  have hp : 0 < 2 ^ (32 - n) := Nat.two_pow_pos _
  unfold rot
  rw [Int.toNat_natCast, Int.toNat_natCast, show 32 - (32 - n) = n by omega]
  have d1 : (a / 2 ^ n + a % 2 ^ n * 2 ^ (32 - n)) / 2 ^ (32 - n) = a % 2 ^ n := by
    rw [Nat.add_mul_div_right _ _ hp, Nat.div_eq_of_lt l1, Nat.zero_add]
  have d2 : (a / 2 ^ n + a % 2 ^ n * 2 ^ (32 - n)) % 2 ^ (32 - n) = a / 2 ^ n := by
    rw [Nat.add_mul_mod_self_right, Nat.mod_eq_of_lt l1]
  rw [d1, d2]
  have := Nat.div_add_mod a (2 ^ n)
  rw [Nat.mul_comm] at this
  have e3 : a % 2 ^ n + a / 2 ^ n * 2 ^ n = a := by omega
  rw [e3]
/-! ### the sum of bytes -/
def crcT (n : Int) : Int := if n % 2 = 1 then xr (n / 2) 2197175160 else n / 2
def crcI : Nat → Int → Int
  | 0, n => n
  | d + 1, n => crcI d (crcT n)
def crcF (n : Int) (l : List Int) : Int := l.foldl (fun n b => crcI 8 (xr n b)) n
def crcOf (l : List Int) : Int := xr (crcF 4294967295 l) 4294967295
theorem Wd.half {n : Int} (h : Wd n) : Wd (n / 2) := by obtain ⟨_, _⟩ := h; unfold Wd; omega
theorem Wd.poly : Wd 2197175160 := by unfold Wd; omega
theorem Wd.top : Wd 4294967295 := by unfold Wd; omega
theorem Wd.byte {b : Int} (h : 0 ≤ b ∧ b ≤ 255) : Wd b := by unfold Wd; omega
theorem Wd.crcT {n : Int} (h : Wd n) : Wd (crcT n) := by
  unfold Base.crcT
  split
  · exact h.half.xr Wd.poly
  · exact h.half
theorem Wd.crcI {n : Int} (d : Nat) (h : Wd n) : Wd (crcI d n) := by
  induction d generalizing n with
  | zero => exact h
  | succ d ih => exact ih h.crcT
theorem Wd.crcF {l : List Int} (hl : Bytes l) {n : Int} (h : Wd n) : Wd (crcF n l) := by
  induction l generalizing n with
  | nil => exact h
  | cons b l ih => exact ih (fun x hx => hl x (List.mem_cons_of_mem _ hx)) ((h.xr (Wd.byte (hl b (List.mem_cons_self ..)))).crcI 8)
/-! ### one byte that is turned turns the sum -/
theorem xr_self {a p : Int} (ha : 0 ≤ a) : xr (xr a p) p = a := by
  unfold xr
  rw [Int.toNat_natCast, Nat.xor_assoc, Nat.xor_self, Nat.xor_zero]; omega
theorem xr_comm (a b : Int) : xr a b = xr b a := by unfold xr; rw [Nat.xor_comm]
theorem xr_inj {a b p : Int} (ha : 0 ≤ a) (hb : 0 ≤ b) (h : xr a p = xr b p) : a = b := by rw [← xr_self (p := p) ha, ← xr_self (p := p) hb, h]
theorem xr_inj' {a b p : Int} (ha : 0 ≤ a) (hb : 0 ≤ b) (h : xr p a = xr p b) : a = b := by rw [xr_comm p a, xr_comm p b] at h; exact xr_inj ha hb h
theorem crcT_high {n : Int} (h : Wd n) (ho : n % 2 = 1) : 2147483648 ≤ crcT n := by
  obtain ⟨h0, h1⟩ := h
  unfold crcT
  rw [if_pos ho]
  unfold xr
  have e : ((n / 2).toNat ^^^ (2197175160 : Int).toNat) / 2 ^ 31 = 1 := by
    rw [Nat.xor_div_two_pow]
    have e1 : (n / 2).toNat / 2 ^ 31 = 0 := by omega
    have e2 : (2197175160 : Int).toNat / 2 ^ 31 = 1 := by decide
    rw [e1, e2]; rfl
  omega
theorem crcT_low {n : Int} (h : Wd n) (ho : ¬ n % 2 = 1) : crcT n ≤ 2147483647 := by
  obtain ⟨h0, h1⟩ := h
  unfold crcT
  rw [if_neg ho]; omega
theorem crcT_inj {a b : Int} (ha : Wd a) (hb : Wd b) (h : crcT a = crcT b) : a = b := by
  by_cases ca : a % 2 = 1
  · have h1 := crcT_high ha ca
    by_cases cb : b % 2 = 1
    · unfold crcT at h
      rw [if_pos ca, if_pos cb] at h
      have := xr_inj ha.half.1 hb.half.1 h
      omega
    · have := crcT_low hb cb
      omega
  · have h1 := crcT_low ha ca
    by_cases cb : b % 2 = 1
    · have := crcT_high hb cb
      omega
    · unfold crcT at h
      rw [if_neg ca, if_neg cb] at h
      omega
theorem crcI_inj (d : Nat) {a b : Int} (ha : Wd a) (hb : Wd b) (h : crcI d a = crcI d b) : a = b := by
  induction d generalizing a b with
  | zero => exact h
  | succ d ih => exact crcT_inj ha hb (ih ha.crcT hb.crcT h)
theorem crcF_inj {l : List Int} (hl : Bytes l) {a b : Int} (ha : Wd a) (hb : Wd b) (h : crcF a l = crcF b l) : a = b := by
  induction l generalizing a b with
  | nil => exact h
  | cons x l ih =>
    have hx := hl x (List.mem_cons_self ..)
    have h2 := ih (fun y hy => hl y (List.mem_cons_of_mem _ hy)) ((ha.xr (Wd.byte hx)).crcI 8) ((hb.xr (Wd.byte hx)).crcI 8) h
    exact xr_inj ha.1 hb.1 (crcI_inj 8 (ha.xr (Wd.byte hx)) (hb.xr (Wd.byte hx)) h2)
theorem crcF_turned {l : List Int} (hl : Bytes l) {n : Int} (hn : Wd n) {i : Nat} (hi : i < l.length) {b : Int} (hb : 0 ≤ b ∧ b ≤ 255) (hne : b ≠ l[i]) : crcF n (l.set i b) ≠ crcF n l := by
  induction l generalizing n i with
  | nil => simp at hi
  | cons x l ih =>
    have hx := hl x (List.mem_cons_self ..)
    have hr : Bytes l := fun y hy => hl y (List.mem_cons_of_mem _ hy)
    cases i with
    | zero =>
      intro h
      have h2 := crcF_inj hr ((hn.xr (Wd.byte hb)).crcI 8) ((hn.xr (Wd.byte hx)).crcI 8) h
      have h3 := crcI_inj 8 (hn.xr (Wd.byte hb)) (hn.xr (Wd.byte hx)) h2
      exact hne (xr_inj' hb.1 hx.1 h3)
    | succ i => exact ih hr ((hn.xr (Wd.byte hx)).crcI 8) (by simpa using hi) (by simpa using hne)
theorem Bytes.crcOf {l : List Int} (hl : Bytes l) : Wd (crcOf l) := (Wd.crcF hl Wd.top).xr Wd.top
theorem crcOf_turned {l : List Int} (hl : Bytes l) {i : Nat} (hi : i < l.length) {b : Int} (hb : 0 ≤ b ∧ b ≤ 255) (hne : b ≠ l[i]) : crcOf (l.set i b) ≠ crcOf l := by
  intro h
  have hs : Bytes (l.set i b) := fun x hx => by
    rcases List.mem_or_eq_of_mem_set hx with h | rfl
    · exact hl x h
    · exact hb
  exact crcF_turned hl Wd.top hi hb hne (xr_inj (Wd.crcF hs Wd.top).1 (Wd.crcF hl Wd.top).1 h)
/-! ### xor and and, bit by bit -/
theorem xor_step (a b j : Nat) : (a ^^^ b) % 2 ^ (j + 1) = (a ^^^ b) % 2 ^ j + (if a / 2 ^ j % 2 = b / 2 ^ j % 2 then 0 else 2 ^ j) := by
  have h1 : (a ^^^ b) % 2 ^ (j + 1) = (a ^^^ b) % 2 ^ j + 2 ^ j * ((a ^^^ b) / 2 ^ j % 2) := Nat.mod_pow_succ
  have h2 : (a / 2 ^ j ^^^ b / 2 ^ j) % 2 = (a / 2 ^ j % 2) ^^^ (b / 2 ^ j % 2) := Nat.xor_mod_two_pow (n := 1)
  rw [h1, Nat.xor_div_two_pow, h2]
  rcases Nat.mod_two_eq_zero_or_one (a / 2 ^ j) with e | e <;> rcases Nat.mod_two_eq_zero_or_one (b / 2 ^ j) with f | f <;> rw [e, f] <;> simp
theorem and_step (a b j : Nat) : (a &&& b) % 2 ^ (j + 1) = (a &&& b) % 2 ^ j + (if a / 2 ^ j % 2 = 1 ∧ b / 2 ^ j % 2 = 1 then 2 ^ j else 0) := by
  have h1 : (a &&& b) % 2 ^ (j + 1) = (a &&& b) % 2 ^ j + 2 ^ j * ((a &&& b) / 2 ^ j % 2) := Nat.mod_pow_succ
  have h2 : (a / 2 ^ j &&& b / 2 ^ j) % 2 = (a / 2 ^ j % 2) &&& (b / 2 ^ j % 2) := Nat.and_mod_two_pow (n := 1)
  rw [h1, Nat.and_div_two_pow, h2]
  rcases Nat.mod_two_eq_zero_or_one (a / 2 ^ j) with e | e <;> rcases Nat.mod_two_eq_zero_or_one (b / 2 ^ j) with f | f <;> rw [e, f] <;> simp
theorem two_pow_lt {j : Nat} (h : j < 32) : 0 < 2 ^ j ∧ 2 ^ j ≤ 2147483648 := by
  have h1 : (2 : Nat) ^ j ≤ 2 ^ 31 := Nat.pow_le_pow_right (by decide) (by omega)
  exact ⟨Nat.two_pow_pos j, h1⟩
theorem low_lt (x j : Nat) (hx : x < 4294967296) : x % 2 ^ j < 4294967296 := Nat.lt_of_le_of_lt (Nat.mod_le _ _) hx
theorem cast_lt {P : Nat} (h : P ≤ 2147483648) : ((P : Nat) : Int) < 4294967296 := by omega
theorem cast_ne {P : Nat} (h : 0 < P) : ¬ ((P : Nat) : Int) = 0 := by omega
theorem wrap_dbl {P : Nat} (h : P ≤ 2147483648) : wrap64 ((P : Int) * 2) = ((P * 2 : Nat) : Int) := by
  rw [w64 (by omega) (by omega)]; rfl
theorem wrap_sum {X P : Nat} (hX : X < 4294967296) (h : P ≤ 2147483648) : wrap64 ((X : Int) + (P : Int)) = ((X + P : Nat) : Int) := by
  rw [w64 (by omega) (by omega)]; rfl
theorem wrap_bit {z : Nat} (h : z < 4294967296) : Int.tmod (wrap64 (z : Int)) 2 = ((z % 2 : Nat) : Int) := by
  rw [w64 (by omega) (by omega), Int.tmod_eq_emod_of_nonneg (by omega)]; rfl
theorem bit_of (a j : Nat) (ha : a < 4294967296) : Int.tmod (wrap64 (Int.tdiv (a : Int) ((2 ^ j : Nat) : Int))) 2 = ((a / 2 ^ j % 2 : Nat) : Int) := by
  rw [← Int.ofNat_tdiv]
  exact wrap_bit (Nat.lt_of_le_of_lt (Nat.div_le_self _ _) ha)
theorem wrap_tdiv {x : Int} (hx : Wd x) {P : Nat} (h : 0 < P) : wrap64 (Int.tdiv x (P : Int)) = x / (P : Int) ∧ Wd (x / (P : Int)) := by
  obtain ⟨x0, x1⟩ := hx
  have h1 : 0 ≤ x / (P : Int) := Int.ediv_nonneg x0 (by omega)
  have h2 : x / (P : Int) ≤ x := Int.ediv_le_self _ x0
  rw [Int.tdiv_eq_ediv_of_nonneg x0]
  exact ⟨w64 (by omega) (by omega), h1, by omega⟩
/-! ### the digest's words -/
def ssig0 (x : Int) : Int := xr (xr (rot x 7) (rot x 18)) (x / 8)
def ssig1 (x : Int) : Int := xr (xr (rot x 17) (rot x 19)) (x / 1024)
def bsig0 (x : Int) : Int := xr (xr (rot x 2) (rot x 13)) (rot x 22)
def bsig1 (x : Int) : Int := xr (xr (rot x 6) (rot x 11)) (rot x 25)
theorem Wd.div {x : Int} (h : Wd x) {n : Int} (hn : 1 ≤ n) : Wd (x / n) := by
  obtain ⟨h0, h1⟩ := h
  exact ⟨Int.ediv_nonneg h0 (by omega), Int.le_trans (Int.ediv_le_self n h0) h1⟩
theorem Wd.ssig0 {x : Int} (h : Wd x) : Wd (ssig0 x) := ((h.rot (by decide)).xr (h.rot (by decide))).xr (h.div (by decide))
theorem Wd.ssig1 {x : Int} (h : Wd x) : Wd (ssig1 x) := ((h.rot (by decide)).xr (h.rot (by decide))).xr (h.div (by decide))
theorem Wd.bsig0 {x : Int} (h : Wd x) : Wd (bsig0 x) := ((h.rot (by decide)).xr (h.rot (by decide))).xr (h.rot (by decide))
theorem Wd.bsig1 {x : Int} (h : Wd x) : Wd (bsig1 x) := ((h.rot (by decide)).xr (h.rot (by decide))).xr (h.rot (by decide))
def Words (l : List Int) : Prop := ∀ x ∈ l, Wd x
theorem Words.rd {l : List Int} (h : Words l) (i : Int) : Wd (rd l i) := by
  show Wd (l.getD i.toNat 0)
  rw [List.getD_eq_getElem?_getD]
  cases e : l[i.toNat]? with
  | none => exact ⟨by decide, by decide⟩
  | some x => exact h x (List.mem_of_getElem? e)
theorem Words.append {a b : List Int} (ha : Words a) (hb : Words b) : Words (a ++ b) := fun x h => by
  rcases List.mem_append.1 h with h | h
  · exact ha x h
  · exact hb x h
theorem Words.one {a : Int} (ha : Wd a) : Words [a] := fun x h => by rw [List.mem_singleton.1 h]; exact ha
theorem Words.nil : Words [] := fun x h => by simp at h
def sched0 (b : List Int) : Nat → List Int
  | 0 => []
  | n + 1 => sched0 b n ++ [at4 b (4 * (n : Int))]
def schedW (w : List Int) (i : Int) : Int := (rd w (i - 16) + rd w (i - 7) + ssig0 (rd w (i - 15)) + ssig1 (rd w (i - 2))) % 4294967296
def schedN (b : List Int) : Nat → List Int
  | 0 => sched0 b 16
  | n + 1 => schedN b n ++ [schedW (schedN b n) ((n : Int) + 16)]
def sched (b : List Int) : List Int := schedN b 48
theorem sched0_length (b : List Int) (n : Nat) : (sched0 b n).length = n := by
  induction n with
  | zero => rfl
  | succ n ih => rw [sched0, List.length_append, ih]; rfl
theorem schedN_length (b : List Int) (n : Nat) : (schedN b n).length = n + 16 := by
  induction n with
  | zero => exact sched0_length b 16
  | succ n ih => rw [schedN, List.length_append, ih, List.length_singleton]
theorem sched0_words {b : List Int} (hb : Bytes b) (n : Nat) : Words (sched0 b n) := by
  induction n with
  | zero => exact Words.nil
  | succ n ih => exact ih.append (Words.one (hb.at4 _))
theorem schedN_words {b : List Int} (hb : Bytes b) (n : Nat) : Words (schedN b n) := by
  induction n with
  | zero => exact sched0_words hb 16
  | succ n ih => exact ih.append (Words.one (Wd.mod _))
theorem sched_length (b : List Int) : (sched b).length = 64 := schedN_length b 48
theorem sched_words {b : List Int} (hb : Bytes b) : Words (sched b) := schedN_words hb 48
theorem sched0_get (b : List Int) (n i : Nat) (h : i < n) : rd (sched0 b n) (i : Int) = at4 b (4 * (i : Int)) := by
  induction n with
  | zero => omega
  | succ n ih =>
    rw [rd_nat _ i (by rw [sched0_length]; exact h)]
    by_cases e : i < n
    · have := ih e
      rw [rd_nat _ i (by rw [sched0_length]; exact e)] at this
      simp only [sched0]
      rw [List.getElem_append_left (by rw [sched0_length]; exact e)]; exact this
    · obtain rfl : i = n := by omega
      simp only [sched0]
      rw [List.getElem_append_right (by rw [sched0_length]; omega)]
      simp [sched0_length]
theorem schedN_get (b : List Int) (n i : Nat) (h : i < 16) : rd (schedN b n) (i : Int) = at4 b (4 * (i : Int)) := by
  induction n with
  | zero => exact sched0_get b 16 i h
  | succ n ih =>
    rw [rd_nat _ i (by rw [schedN_length]; omega)]
    rw [rd_nat _ i (by rw [schedN_length]; omega)] at ih
    simp only [schedN]
    rw [List.getElem_append_left (by rw [schedN_length]; omega)]; exact ih
/-- One round: the eight words, the round's constant, the schedule's word. -/
def rnd1 (v : List Int) (k w : Int) : Int := (rd v 7 + bsig1 (rd v 4) + xr (an (rd v 4) (rd v 5)) (an (4294967295 - rd v 4) (rd v 6)) + k + w) % 4294967296
def rnd2 (v : List Int) : Int := (bsig0 (rd v 0) + xr (xr (an (rd v 0) (rd v 1)) (an (rd v 0) (rd v 2))) (an (rd v 1) (rd v 2))) % 4294967296
def rnd (v : List Int) (k w : Int) : List Int := [(rnd1 v k w + rnd2 v) % 4294967296, rd v 0, rd v 1, rd v 2, (rd v 3 + rnd1 v k w) % 4294967296, rd v 4, rd v 5, rd v 6]
theorem rnd_length (v : List Int) (k w : Int) : (rnd v k w).length = 8 := rfl
theorem rnd_words {v : List Int} (hv : Words v) (k w : Int) : Words (rnd v k w) := by
  intro x hx
  simp only [rnd, List.mem_cons, List.not_mem_nil, or_false] at hx
  rcases hx with rfl | rfl | rfl | rfl | rfl | rfl | rfl | rfl
  · exact Wd.mod _
  · exact hv.rd 0
  · exact hv.rd 1
  · exact hv.rd 2
  · exact Wd.mod _
  · exact hv.rd 4
  · exact hv.rd 5
  · exact hv.rd 6
def rounds (ks ws v : List Int) : Nat → List Int
  | 0 => v
  | n + 1 => rnd (rounds ks ws v n) (rd ks (n : Int)) (rd ws (n : Int))
theorem rounds_length (ks ws v : List Int) (hv : v.length = 8) (n : Nat) : (rounds ks ws v n).length = 8 := by
  cases n with
  | zero => exact hv
  | succ n => rfl
theorem rounds_words (ks ws v : List Int) (hv : Words v) (n : Nat) : Words (rounds ks ws v n) := by
  induction n with
  | zero => exact hv
  | succ n ih => exact rnd_words ih _ _
def keys64 : List Int := [0x428a2f98, 0x71374491, 0xb5c0fbcf, 0xe9b5dba5, 0x3956c25b, 0x59f111f1, 0x923f82a4, 0xab1c5ed5, 0xd807aa98, 0x12835b01, 0x243185be, 0x550c7dc3, 0x72be5d74, 0x80deb1fe, 0x9bdc06a7, 0xc19bf174, 0xe49b69c1, 0xefbe4786, 0x0fc19dc6, 0x240ca1cc, 0x2de92c6f, 0x4a7484aa, 0x5cb0a9dc, 0x76f988da, 0x983e5152, 0xa831c66d, 0xb00327c8, 0xbf597fc7, 0xc6e00bf3, 0xd5a79147, 0x06ca6351, 0x14292967, 0x27b70a85, 0x2e1b2138, 0x4d2c6dfc, 0x53380d13, 0x650a7354, 0x766a0abb, 0x81c2c92e, 0x92722c85, 0xa2bfe8a1, 0xa81a664b, 0xc24b8b70, 0xc76c51a3, 0xd192e819, 0xd6990624, 0xf40e3585, 0x106aa070, 0x19a4c116, 0x1e376c08, 0x2748774c, 0x34b0bcb5, 0x391c0cb3, 0x4ed8aa4a, 0x5b9cca4f, 0x682e6ff3, 0x748f82ee, 0x78a5636f, 0x84c87814, 0x8cc70208, 0x90befffa, 0xa4506ceb, 0xbef9a3f7, 0xc67178f2]
theorem keys64_words : Words keys64 := by
  intro x hx
  have h : keys64.all (fun x => decide (0 ≤ x ∧ x ≤ 4294967295)) = true := by decide
  have := List.all_eq_true.1 h x hx
  simpa [Wd] using this
def addL (a b : List Int) : Nat → List Int
  | 0 => []
  | n + 1 => addL a b n ++ [(rd a (n : Int) + rd b (n : Int)) % 4294967296]
theorem addL_length (a b : List Int) (n : Nat) : (addL a b n).length = n := by
  induction n with
  | zero => rfl
  | succ n ih => rw [addL, List.length_append, ih]; rfl
theorem addL_words (a b : List Int) (n : Nat) : Words (addL a b n) := by
  induction n with
  | zero => exact Words.nil
  | succ n ih => exact ih.append (Words.one (Wd.mod _))
/-- The state behind a block. -/
def comp (state block : List Int) : List Int := addL state (rounds keys64 (sched block) state 64) 8
theorem comp_length (s b : List Int) : (comp s b).length = 8 := addL_length _ _ 8
theorem comp_words (s b : List Int) : Words (comp s b) := addL_words _ _ 8
def start8 : List Int := [0x6a09e667, 0xbb67ae85, 0x3c6ef372, 0xa54ff53a, 0x510e527f, 0x9b05688c, 0x1f83d9ab, 0x5be0cd19]
theorem start8_words : Words start8 := by
  intro x hx
  have h : start8.all (fun x => decide (0 ≤ x ∧ x ≤ 4294967295)) = true := by decide
  have := List.all_eq_true.1 h x hx
  simpa [Wd] using this
/-! ### the padded message, the digest -/
def zerosFor (n : Nat) : Nat := (64 + 56 - (n + 1) % 64) % 64
def padded (l : List Int) : List Int := l ++ [128] ++ List.replicate (zerosFor l.length) 0 ++ [0, 0, 0, 0] ++ pack4 ((l.length : Int) * 8)
theorem padded_length (l : List Int) : (padded l).length = l.length + 9 + zerosFor l.length := by
  simp only [padded, pack4, List.length_append, List.length_cons, List.length_nil, List.length_replicate]; omega
theorem padded_mod (l : List Int) : (padded l).length % 64 = 0 := by
  rw [padded_length]; unfold zerosFor; omega
theorem padded_bytes {l : List Int} (h : Bytes l) : Bytes (padded l) := by
  refine ((((h.append ?_).append (Bytes.replicate _)).append ?_)).append (pack4_bytes _)
  · intro x hx; simp at hx; omega
  · intro x hx; simp at hx; omega
def shaN (p : List Int) (s : List Int) : Nat → List Int
  | 0 => s
  | n + 1 => comp (shaN p s n) ((p.take (64 * n + 64)).drop (64 * n))
theorem shaN_length (p s : List Int) (hs : s.length = 8) (n : Nat) : (shaN p s n).length = 8 := by
  cases n with
  | zero => exact hs
  | succ n => exact comp_length _ _
theorem shaN_words (p s : List Int) (hs : Words s) (n : Nat) : Words (shaN p s n) := by
  cases n with
  | zero => exact hs
  | succ n => exact comp_words _ _
def packs (l : List Int) : Nat → List Int
  | 0 => []
  | n + 1 => packs l n ++ pack4 (rd l (n : Int))
theorem packs_length (l : List Int) (n : Nat) : (packs l n).length = 4 * n := by
  induction n with
  | zero => rfl
  | succ n ih => rw [packs, List.length_append, ih]; simp [pack4]; omega
theorem packs_bytes (l : List Int) (n : Nat) : Bytes (packs l n) := by
  induction n with
  | zero => exact Bytes.nil
  | succ n ih => exact ih.append (pack4_bytes _)
def shaOf (l : List Int) : List Int := packs (shaN (padded l) start8 ((padded l).length / 64)) 8
theorem shaOf_length (l : List Int) : (shaOf l).length = 32 := packs_length _ 8
theorem shaOf_bytes (l : List Int) : Bytes (shaOf l) := packs_bytes _ 8
/-! ### keys and codes -/
def block64 (key : List Int) : List Int := (if key.length > 64 then shaOf key else key) ++ List.replicate (64 - (if key.length > 64 then shaOf key else key).length) 0
def xorWith (l : List Int) (b : Int) : List Int := l.map fun x => xr x b
def hmacOf (key data : List Int) : List Int := shaOf (xorWith (block64 key) 92 ++ shaOf (xorWith (block64 key) 54 ++ data))
theorem xr_byte {a b : Int} (ha : 0 ≤ a ∧ a ≤ 255) (hb : 0 ≤ b ∧ b ≤ 255) : 0 ≤ xr a b ∧ xr a b ≤ 255 := by
  have h := Nat.xor_lt_two_pow (n := 8) (x := a.toNat) (y := b.toNat) (by omega) (by omega)
  unfold xr
  omega
theorem xorWith_bytes {l : List Int} (h : Bytes l) {b : Int} (hb : 0 ≤ b ∧ b ≤ 255) : Bytes (xorWith l b) := by
  intro x hx
  obtain ⟨y, hy, rfl⟩ := List.mem_map.1 hx
  exact xr_byte (h y hy) hb
theorem block64_length {key : List Int} : (block64 key).length = 64 := by
  unfold block64
  split
  · rw [List.length_append, List.length_replicate, shaOf_length]
  · rw [List.length_append, List.length_replicate]; omega
theorem block64_bytes {key : List Int} (h : Bytes key) : Bytes (block64 key) := by
  unfold block64
  refine Bytes.append ?_ (Bytes.replicate _)
  split
  · exact shaOf_bytes _
  · exact h
theorem hmacOf_length (k d : List Int) : (hmacOf k d).length = 32 := shaOf_length _
theorem hmacOf_bytes (k d : List Int) : Bytes (hmacOf k d) := shaOf_bytes _
/-! ### chunks -/
def chunkF (kind flags : Int) (body : List Int) : Int := if (inB kind 0 255 && inB flags 0 255) = true then (if body.length > 160 then 2 else 0) else 3
def padN (n : Nat) : Nat := (4 - n % 4) % 4
def packC (kind flags : Int) (body : List Int) : List Int := [kind % 256, flags % 256, ((body.length : Int) + 4) / 256 % 256, ((body.length : Int) + 4) % 256] ++ body ++ List.replicate (padN body.length) 0
theorem packC_length (kind flags : Int) (body : List Int) : (packC kind flags body).length = body.length + 4 + padN body.length := by
  simp only [packC, List.length_append, List.length_cons, List.length_nil, List.length_replicate]; omega
theorem packC_mod (kind flags : Int) (body : List Int) : (packC kind flags body).length % 4 = 0 := by
  rw [packC_length]; unfold padN; omega
theorem packC_bytes (kind flags : Int) {body : List Int} (hb : Bytes body) : Bytes (packC kind flags body) := by
  refine (Bytes.append ?_ hb).append (Bytes.replicate _)
  intro x hx
  simp only [List.mem_cons, List.not_mem_nil, or_false] at hx
  rcases hx with rfl | rfl | rfl | rfl <;> omega
theorem chunkF_zero {a b : Int} {l : List Int} (h : chunkF a b l = 0) : (0 ≤ a ∧ a ≤ 255) ∧ (0 ≤ b ∧ b ≤ 255) ∧ l.length ≤ 160 := by
  unfold chunkF at h
  split at h
  · next h1 =>
    obtain ⟨h2, h3⟩ := Bool.and_eq_true_iff.1 h1
    refine ⟨inB_true.1 h2, inB_true.1 h3, ?_⟩
    split at h <;> omega
  · omega
def packR (a b : Int) (l : List Int) : Int × List Int := if chunkF a b l = 0 then (0, packC a b l) else (chunkF a b l, [])
theorem packR_fst (a b : Int) (l : List Int) : (packR a b l).1 = chunkF a b l := by
  unfold packR
  split
  · next h => exact h.symm
  · rfl
theorem packC_body (a b : Int) (l : List Int) : ((packC a b l).take (4 + (l.length : Int)).toNat).drop 4 = l := by
  unfold packC
  rw [List.take_append_of_le_length (by simp; omega), List.take_of_length_le (by simp; omega)]
  rfl
theorem packC_pad (a b : Int) (l : List Int) (j : Nat) (h0 : 4 + l.length ≤ j) (h1 : j < (packC a b l).length) : rd (packC a b l) (j : Int) = 0 := by
  have e : packC a b l = ([a % 256, b % 256, ((l.length : Int) + 4) / 256 % 256, ((l.length : Int) + 4) % 256] ++ l) ++ List.replicate (padN l.length) 0 := rfl
  rw [e] at h1 ⊢
  rw [rd_nat _ _ h1, List.getElem_append_right (by simp; omega)]
  exact List.getElem_replicate _
theorem packR_len (a b : Int) (l : List Int) : (packR a b l).2.length ≤ 167 := by
  unfold packR
  split
  · next h => have := (chunkF_zero h).2.2; rw [packC_length]; unfold padN; omega
  · simp
/-! ### what the functions answer -/
def padR (l : List Int) : Int × List Int := if l.length > 700 then (2, []) else (0, padded l)
theorem padR_len (l : List Int) : (padR l).2.length ≤ 1000 := by
  unfold padR
  split
  · simp
  · rw [padded_length]; unfold zerosFor; omega
def schedR (b : List Int) : Int × List Int := if b.length = 64 then (0, sched b) else (2, [])
theorem schedR_len (b : List Int) : (schedR b).2.length ≤ 64 := by
  unfold schedR
  split
  · rw [sched_length]; exact Nat.le_refl _
  · simp
def compR (s b : List Int) : Int × List Int := if s.length = 8 ∧ b.length = 64 then (if s.all isWd = true then (0, comp s b) else (3, [])) else (2, [])
theorem compR_len (s b : List Int) : (compR s b).2.length ≤ 8 := by
  unfold compR
  split
  · split
    · rw [comp_length]; exact Nat.le_refl _
    · simp
  · simp
def shaR (l : List Int) : Int × List Int := if l.length > 700 then (2, []) else (0, shaOf l)
theorem shaR_len (l : List Int) : (shaR l).2.length ≤ 32 := by
  unfold shaR
  split
  · simp
  · rw [shaOf_length]; exact Nat.le_refl _
def sameMac (a b : List Int) : Bool := decide (a.length = 32) && (a == b)
def hmacR (k d : List Int) : Int × List Int := if k.length > 200 ∨ d.length > 600 then (2, []) else (0, hmacOf k d)
theorem hmacR_len (k d : List Int) : (hmacR k d).2.length ≤ 32 := by
  unfold hmacR
  split
  · simp
  · rw [hmacOf_length]; exact Nat.le_refl _
/-- A block of which the first n bytes are turned. -/
def xw (b : List Int) (w : Int) (n : Nat) : List Int := (b.take n).map (fun x => xr x w) ++ b.drop n
theorem xw_length (b : List Int) (w : Int) (n : Nat) : (xw b w n).length = b.length := by
  unfold xw; rw [List.length_append, List.length_map, List.length_take, List.length_drop]; omega
theorem xw_rd {b : List Int} {w : Int} {n : Nat} (h : n < b.length) : rd (xw b w n) (n : Int) = rd b (n : Int) := by
  have hl : ((b.take n).map (fun x => xr x w)).length = n := by rw [List.length_map, List.length_take]; omega
  have hx := xw_length b w n
  unfold xw at hx ⊢
  rw [rd_nat _ n (by rw [hx]; exact h), rd_nat b n h, List.getElem_append_right (by omega), List.getElem_drop]
  congr 1; omega
theorem xw_set {b : List Int} {w : Int} {n : Nat} (h : n < b.length) : (xw b w n).set n (xr (rd b (n : Int)) w) = xw b w (n + 1) := by
  have hl : ((b.take n).map (fun x => xr x w)).length = n := by rw [List.length_map, List.length_take]; omega
  show ((b.take n).map (fun x => xr x w) ++ b.drop n).set n _ = (b.take (n + 1)).map (fun x => xr x w) ++ b.drop (n + 1)
  rw [List.set_append_right n _ (by omega), hl, Nat.sub_self, List.drop_eq_getElem_cons h, List.set_cons_zero, List.take_succ_eq_append_getElem h, List.map_append, List.append_assoc, rd_nat b n h]
  rfl
theorem xw_zero (b : List Int) (w : Int) : xw b w 0 = b := rfl
theorem xw_all {b : List Int} {w : Int} {n : Nat} (h : b.length = n) : xw b w n = xorWith b w := by
  unfold xw xorWith; rw [List.take_of_length_le (by omega), List.drop_of_length_le (by omega), List.append_nil]
theorem mapx_snoc {b : List Int} {w : Int} {n : Nat} (h : n < b.length) : (b.take n).map (fun x => xr x w) ++ [xr (rd b (n : Int)) w] = (b.take (n + 1)).map (fun x => xr x w) := by
  rw [List.take_succ_eq_append_getElem h, List.map_append, rd_nat b n h]; rfl
/-- The bytes that a key's block is padded from. -/
def keyOf0 (key : List Int) : List Int := if key.length > 64 then shaOf key else key
theorem keyOf0_len (key : List Int) : (keyOf0 key).length ≤ 64 := by
  unfold keyOf0
  split
  · rw [shaOf_length]; decide
  · omega
theorem keyOf0_bytes {key : List Int} (h : Bytes key) : Bytes (keyOf0 key) := by
  unfold keyOf0
  split
  · exact shaOf_bytes _
  · exact h
theorem block64_eq (key : List Int) : block64 key = keyOf0 key ++ List.replicate (64 - (keyOf0 key).length) 0 := rfl
theorem block64_snoc {key : List Int} (h : key.length < 64) : block64 (key ++ [0]) = block64 key := by
  have e1 : keyOf0 key = key := by unfold keyOf0; rw [if_neg (by omega)]
  have e2 : keyOf0 (key ++ [0]) = key ++ [0] := by unfold keyOf0; rw [if_neg (by simp; omega)]
  rw [block64_eq, block64_eq, e1, e2, List.length_append, List.length_singleton, List.append_assoc]
  congr 1
  rw [show 64 - key.length = (64 - (key.length + 1)) + 1 by omega, List.replicate_succ, List.singleton_append]
theorem block64_sha {key : List Int} (h : key.length > 64) : block64 (shaOf key) = block64 key := by
  have e1 : keyOf0 key = shaOf key := by unfold keyOf0; rw [if_pos h]
  have e2 : keyOf0 (shaOf key) = shaOf key := by unfold keyOf0; rw [if_neg (by rw [shaOf_length]; decide)]
  rw [block64_eq, block64_eq, e1, e2]
theorem hmacOf_block {k k2 d : List Int} (h : block64 k2 = block64 k) : hmacOf k2 d = hmacOf k d := by unfold hmacOf; rw [h]
theorem sameMac_comm (a b : List Int) : sameMac b a = sameMac a b := by
  unfold sameMac
  by_cases h : a = b
  · rw [h]
  · have h1 : (a == b) = false := by simpa using h
    have h2 : (b == a) = false := by simpa using fun e => h e.symm
    rw [h1, h2, Bool.and_false, Bool.and_false]
def serLess (a b : Int) : Bool := isWd a && (isWd b && inB ((b - a) % 4294967296) 1 2147483647)
def serGap (a b : Int) : Int × Int := if (isWd a && isWd b) = true then (0, (b - a) % 4294967296) else (3, 0)
def addW (a b : Int) : Int × Int := if (isWd a && isWd b) = true then (0, (a + b) % 4294967296) else (3, 0)
def sumW (s : Int) (l : List Int) : Int := l.foldl (fun s x => (s + x) % 4294967296) s
def rotW (w n : Int) : Int × Int := if (isWd w && inB n 0 31) = true then (0, rot w n.toNat) else (3, 0)
def wdAt (l : List Int) (i : Int) : Int × Int := if inB i 0 ((l.length : Int) - 4) = true then (0, at4 l i) else (3, 0)
def crcR (l : List Int) : Int × Int := if l.length > 700 then (2, 0) else (0, crcOf l)
def packW (w : Int) : Int × List Int := if isWd w = true then (0, pack4 w) else (3, [])
def actOf (a : Int) : Int × Int := if inB a 0 255 = true then (0, wrap64 (Int.tdiv a 64)) else (3, 0)
theorem packW_len (w : Int) : (packW w).2.length ≤ 4 := by unfold packW; split <;> simp [pack4]
theorem take_set_succ {α : Type} (x y : List α) (i : Nat) (h : i < x.length) (hy : i < y.length) (ht : x.take i = y.take i) : (x.set i y[i]).take (i + 1) = y.take (i + 1) := by
  rw [List.take_succ_eq_append_getElem (by rw [List.length_set]; omega), List.getElem_set_self, List.take_set_of_le (by omega), ht, List.take_succ_eq_append_getElem hy]
theorem drop_cons {α : Type} (l : List α) (i : Nat) (h : i < l.length) : l.drop i = l[i] :: l.drop (i + 1) := List.drop_eq_getElem_cons h
theorem w64_succ {i : Nat} (h : i ≤ 4611686018427387904) : wrap64 ((i : Int) + 1) = ((i + 1 : Nat) : Int) := by rw [w64 (by omega) (by omega)]; omega
end Go.Proofs.Ytacfebnfdmbkaaa.Base
