/- Lemmas for the printed walks of FnExactPackInit: of the words that the kit's printer laid for this seat, those that this law's texts name. -/
import Derived.Test.YtacfebnfdmbkaaaUFnExactPackInitMore
import Derived.Laws.BitsLemmas
namespace Go.Proofs.Ytacfebnfdmbkaaa.Base
open Go.RowKit Go.Proofs.YtacfebnfdmbkaaaW.PrintWords Go.Proofs.YtacfebnfdmbkaaaW.PrintLast Go.Proofs.YtacfebnfdmbkaaaW.PrintMore

theorem w64 {x : Int} (h0 : -9223372036854775808 ≤ x) (h1 : x ≤ 9223372036854775807) : wrap64 x = x := by unfold wrap64; omega
def xr (a b : Int) : Int := ((a.toNat ^^^ b.toNat : Nat) : Int)
def an (a b : Int) : Int := ((a.toNat &&& b.toNat : Nat) : Int)
def Wd (a : Int) : Prop := 0 ≤ a ∧ a ≤ 4294967295
theorem Wd.xr {a b : Int} (ha : Wd a) (hb : Wd b) : Wd (xr a b) := by
  obtain ⟨h0, h1⟩ := ha
  obtain ⟨h2, h3⟩ := hb
  have h := Nat.xor_lt_two_pow (n := 32) (x := a.toNat) (y := b.toNat) (by omega) (by omega)
  unfold Base.xr Wd
  omega
theorem Wd.an {a b : Int} (ha : Wd a) (hb : Wd b) : Wd (an a b) := by
  obtain ⟨h0, h1⟩ := ha
  obtain ⟨h2, h3⟩ := hb
  have h := Nat.and_lt_two_pow (n := 32) a.toNat (y := b.toNat) (by omega)
  unfold Base.an Wd
  omega
theorem rd_nat (l : List Int) (i : Nat) (h : i < l.length) : rd l (i : Int) = l[i] := by
  unfold rd
  rw [Int.toNat_natCast, List.getD_eq_getElem?_getD, List.getElem?_eq_getElem h]; rfl
def Bytes (l : List Int) : Prop := ∀ x ∈ l, 0 ≤ x ∧ x ≤ 255
theorem Bytes.rd {l : List Int} (h : Bytes l) (i : Int) : 0 ≤ rd l i ∧ rd l i ≤ 255 := by
  show 0 ≤ l.getD i.toNat 0 ∧ l.getD i.toNat 0 ≤ 255
  rw [List.getD_eq_getElem?_getD]
  cases e : l[i.toNat]? with
  | none => simp
  | some x => exact h x (List.mem_of_getElem? e)
theorem Bytes.nil : Bytes [] := fun _ h => by simp at h
theorem Bytes.append {a b : List Int} (ha : Bytes a) (hb : Bytes b) : Bytes (a ++ b) := fun x h => by
  rcases List.mem_append.1 h with h | h
  · exact ha x h
  · exact hb x h
theorem Bytes.take {a : List Int} (ha : Bytes a) (n : Nat) : Bytes (a.take n) := fun x h => ha x (List.mem_of_mem_take h)
theorem Bytes.drop {a : List Int} (ha : Bytes a) (n : Nat) : Bytes (a.drop n) := fun x h => ha x (List.mem_of_mem_drop h)
theorem Bytes.replicate (n : Nat) : Bytes (List.replicate n 0) := fun x h => by rw [List.eq_of_mem_replicate h]; decide
theorem Ev.ret {α : Type} {g : Nat → Option α} {r : α} (h : ∀ k, g (k + 1) = some r) : Ev g r := Ev.step h (Ev.now r)
theorem Ev.pos {α : Type} {c : Prop} [Decidable c] {f g : Nat → Option α} {r : α} (h : c) (k : Ev f r) : Ev (fun n => if c then f n else g n) r := by
  obtain ⟨K, k⟩ := k
  exact ⟨K, fun n hn => by simp only [if_pos h]; exact k n hn⟩
theorem Ev.neg {α : Type} {c : Prop} [Decidable c] {f g : Nat → Option α} {r : α} (h : ¬ c) (k : Ev g r) : Ev (fun n => if c then f n else g n) r := by
  obtain ⟨K, k⟩ := k
  exact ⟨K, fun n hn => by simp only [if_neg h]; exact k n hn⟩
theorem Ev.all {α : Type} {g : Nat → Option α} {r : α} (h : ∀ k, g k = some r) : Ev g r := ⟨0, fun k _ => h k⟩
def inB (n lo hi : Int) : Bool := decide (lo ≤ n ∧ n ≤ hi)
def isWd (n : Int) : Bool := inB n 0 4294967295
theorem inB_true {n lo hi : Int} : inB n lo hi = true ↔ lo ≤ n ∧ n ≤ hi := by simp [inB]
theorem isWd_true {n : Int} : isWd n = true ↔ Wd n := by unfold isWd Wd; exact inB_true
theorem ge_le {a b c : Int} : (if a ≥ b then some (decide (a ≤ c)) else some false) = some (inB a b c) := by
  unfold inB
  split
  · rename_i h
    rw [Option.some.injEq, Bool.eq_iff_iff, decide_eq_true_eq, decide_eq_true_eq]; omega
  · rename_i h
    rw [Option.some.injEq, Bool.eq_iff_iff, decide_eq_true_eq]; simp only [Bool.false_eq_true, false_iff]; omega
def mks (a : Int) : Nat → List Int
  | 0 => []
  | n + 1 => a % 256 :: mks (a + 1) n
theorem mks_length (a : Int) (n : Nat) : (mks a n).length = n := by
  induction n generalizing a with
  | zero => rfl
  | succ n ih => simp [mks, ih]
theorem mks_snoc (a : Int) (n : Nat) : mks a (n + 1) = mks a n ++ [(a + n) % 256] := by
  induction n generalizing a with
  | zero => simp [mks]
  | succ n ih =>
    rw [mks, ih (a + 1)]
    simp only [mks, List.cons_append]
    have : a + 1 + (n : Int) = a + ((n + 1 : Nat) : Int) := by omega
    rw [this]
theorem mks_get (a : Int) (n i : Nat) (h : i < n) : (mks a n)[i]'(by rw [mks_length]; exact h) = (a + i) % 256 := by
  induction n generalizing a i with
  | zero => omega
  | succ n ih =>
    cases i with
    | zero => simp [mks]
    | succ i =>
      simp only [mks, List.getElem_cons_succ]
      rw [ih (a + 1) i (by omega)]
      have : a + 1 + (i : Int) = a + ((i + 1 : Nat) : Int) := by omega
      rw [this]
def mkI (a : Int) : Nat → List Int
  | 0 => []
  | n + 1 => a :: mkI (a + 1) n
theorem mkI_length (a : Int) (n : Nat) : (mkI a n).length = n := by
  induction n generalizing a with
  | zero => rfl
  | succ n ih => simp [mkI, ih]
theorem mkI_snoc (a : Int) (n : Nat) : mkI a (n + 1) = mkI a n ++ [a + n] := by
  induction n generalizing a with
  | zero => simp [mkI]
  | succ n ih =>
    rw [mkI, ih (a + 1)]
    simp only [mkI, List.cons_append]
    have : a + 1 + (n : Int) = a + ((n + 1 : Nat) : Int) := by omega
    rw [this]
def rot (w : Int) (n : Nat) : Int := ((w.toNat / 2 ^ n + w.toNat % 2 ^ n * 2 ^ (32 - n) : Nat) : Int)
theorem two_pow_split {n : Nat} (h : n ≤ 32) : 2 ^ n * 2 ^ (32 - n) = 4294967296 := by
  rw [← Nat.pow_add, Nat.add_sub_cancel' h]
theorem rot_nat_lt {a n : Nat} (ha : a < 4294967296) (h : n ≤ 32) : a / 2 ^ n < 2 ^ (32 - n) ∧ a % 2 ^ n * 2 ^ (32 - n) + 2 ^ (32 - n) ≤ 4294967296 := by
  have e := two_pow_split h
  have hp : 0 < 2 ^ n := Nat.two_pow_pos n
  constructor
  · rw [Nat.div_lt_iff_lt_mul hp, Nat.mul_comm, e]; exact ha
  · have := Nat.mul_le_mul_right (2 ^ (32 - n)) (Nat.succ_le_of_lt (Nat.mod_lt a hp))
    rw [e, Nat.succ_mul] at this
    exact this
theorem Wd.rot {w : Int} (hw : Wd w) {n : Nat} (h : n ≤ 32) : Wd (rot w n) := by
  obtain ⟨_, _⟩ := hw
  obtain ⟨h1, h2⟩ := rot_nat_lt (a := w.toNat) (by omega) h
  have h3 : w.toNat / 2 ^ n + w.toNat % 2 ^ n * 2 ^ (32 - n) ≤ 4294967295 := by omega
  exact ⟨Int.natCast_nonneg _, Int.ofNat_le.2 h3⟩
def pack4 (w : Int) : List Int := [w / 16777216 % 256, w / 65536 % 256, w / 256 % 256, w % 256]
def bsig0 (x : Int) : Int := xr (xr (rot x 2) (rot x 13)) (rot x 22)
def bsig1 (x : Int) : Int := xr (xr (rot x 6) (rot x 11)) (rot x 25)
theorem Wd.bsig0 {x : Int} (h : Wd x) : Wd (bsig0 x) := ((h.rot (by decide)).xr (h.rot (by decide))).xr (h.rot (by decide))
theorem Wd.bsig1 {x : Int} (h : Wd x) : Wd (bsig1 x) := ((h.rot (by decide)).xr (h.rot (by decide))).xr (h.rot (by decide))
def Words (l : List Int) : Prop := ∀ x ∈ l, Wd x
theorem Words.rd {l : List Int} (h : Words l) (i : Int) : Wd (rd l i) := by
  show Wd (l.getD i.toNat 0)
  rw [List.getD_eq_getElem?_getD]
  cases e : l[i.toNat]? with
  | none => exact ⟨by decide, by decide⟩
  | some x => exact h x (List.mem_of_getElem? e)
theorem Words.append {a b : List Int} (ha : Words a) (hb : Words b) : Words (a ++ b) := fun x h => by
  rcases List.mem_append.1 h with h | h
  · exact ha x h
  · exact hb x h
theorem Words.one {a : Int} (ha : Wd a) : Words [a] := fun x h => by rw [List.mem_singleton.1 h]; exact ha
theorem Words.nil : Words [] := fun x h => by simp at h
def rnd1 (v : List Int) (k w : Int) : Int := (rd v 7 + bsig1 (rd v 4) + xr (an (rd v 4) (rd v 5)) (an (4294967295 - rd v 4) (rd v 6)) + k + w) % 4294967296
def rnd2 (v : List Int) : Int := (bsig0 (rd v 0) + xr (xr (an (rd v 0) (rd v 1)) (an (rd v 0) (rd v 2))) (an (rd v 1) (rd v 2))) % 4294967296
def rnd (v : List Int) (k w : Int) : List Int := [(rnd1 v k w + rnd2 v) % 4294967296, rd v 0, rd v 1, rd v 2, (rd v 3 + rnd1 v k w) % 4294967296, rd v 4, rd v 5, rd v 6]
def rounds (ks ws v : List Int) : Nat → List Int
  | 0 => v
  | n + 1 => rnd (rounds ks ws v n) (rd ks (n : Int)) (rd ws (n : Int))
def zerosFor (n : Nat) : Nat := (64 + 56 - (n + 1) % 64) % 64
def padded (l : List Int) : List Int := l ++ [128] ++ List.replicate (zerosFor l.length) 0 ++ [0, 0, 0, 0] ++ pack4 ((l.length : Int) * 8)
theorem padded_length (l : List Int) : (padded l).length = l.length + 9 + zerosFor l.length := by
  simp only [padded, pack4, List.length_append, List.length_cons, List.length_nil, List.length_replicate]; omega
theorem drop_cons {α : Type} (l : List α) (i : Nat) (h : i < l.length) : l.drop i = l[i] :: l.drop (i + 1) := List.drop_eq_getElem_cons h
theorem w64_succ {i : Nat} (h : i ≤ 4611686018427387904) : wrap64 ((i : Int) + 1) = ((i + 1 : Nat) : Int) := by rw [w64 (by omega) (by omega)]; omega
end Go.Proofs.Ytacfebnfdmbkaaa.Base
