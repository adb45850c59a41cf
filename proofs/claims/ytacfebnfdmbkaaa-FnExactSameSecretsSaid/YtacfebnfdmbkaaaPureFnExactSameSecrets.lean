/- The pure statement of FnExactSameSecrets: what the printed functions of the program and of the reference compute makes the law answer true, for all arguments (each number of its kind). -/
import Derived.Test.YtacfebnfdmbkaaaPFnExactSameSecretsx3
import Derived.Test.YtacfebnfdmbkaaaBase
set_option linter.unusedVariables false
set_option linter.unusedSimpArgs false
namespace Go.Proofs.Ytacfebnfdmbkaaa.Pure
open Go.RowKit Go.Proofs.Ytacfebnfdmbkaaa.PFnExactSameSecrets Go.Proofs.YtacfebnfdmbkaaaW.PrintWords Go.Proofs.YtacfebnfdmbkaaaW.PrintLast Go.Proofs.YtacfebnfdmbkaaaW.PrintMore Go.Proofs.Ytacfebnfdmbkaaa.Base
namespace FnExactSameSecrets_
theorem toByteS_l0 (l : List Int) (hl : l.length ≤ 281474976710656) (d : Nat) : ∀ (i : Nat) (x : List Int), i + d = l.length → x.length = l.length → x.take i = l.take i → Ev (fun k => laws_toByteS.l0 k l x (i : Int)) l := by
  induction d with
  | zero =>
    intro i x h hx ht
    have e : x = l := by
      rw [List.take_of_length_le (by omega), List.take_of_length_le (by omega)] at ht
      exact ht
    subst e
    exact Ev.ret fun k => by simp only [laws_toByteS.l0]; rw [if_neg (by omega)]
  | succ d ih =>
    intro i x h hx ht
    have hi : i < l.length := by omega
    refine Ev.step (f := fun k => laws_toByteS.l0 k l (x.set i l[i]) ((i + 1 : Nat) : Int)) (fun k => ?_) ?_
    · simp only [laws_toByteS.l0]
      rw [if_pos (by omega), if_pos (by omega), if_pos (by omega), rd_nat l i hi, w64 (by omega) (by omega)]
      simp only [Int.toNat_natCast]; rfl
    · refine ih (i + 1) _ (by omega) (by rw [List.length_set]; exact hx) ?_
      rw [List.take_succ_eq_append_getElem (by rw [List.length_set]; omega), List.take_succ_eq_append_getElem hi, List.getElem_set_self, List.take_set_of_le (by omega), ht]
theorem toByteS_ev (l : List Int) (hl : l.length ≤ 281474976710656) : Ev (fun k => laws_toByteS.f k l) l := by
  unfold laws_toByteS.f
  simp only [if_pos (show (0 : Int) ≤ (l.length : Int) by omega), if_pos (show ((l.length : Int) : Int).toNat ≤ 281474976710656 by omega)]
  exact toByteS_l0 l hl l.length 0 _ (by omega) (by simp) (by simp)
theorem eqByteS_l0 (l : List Int) (hl : l.length ≤ 4611686018427387904) (d : Nat) : ∀ i : Nat, i + d = l.length → Ev (fun k => laws_eqByteS.l0 k l l (i : Int)) true := by
  induction d with
  | zero =>
    intro i h
    exact Ev.ret fun k => by simp only [laws_eqByteS.l0]; rw [if_neg (by omega)]
  | succ d ih =>
    intro i h
    refine Ev.step (f := fun k => laws_eqByteS.l0 k l l ((i + 1 : Nat) : Int)) (fun k => ?_) (ih (i + 1) (by omega))
    simp only [laws_eqByteS.l0]
    rw [if_pos (by omega), if_pos (by omega), if_pos (by omega), if_pos (by trivial), w64 (by omega) (by omega)]; rfl
theorem eqByteS_self (l : List Int) (hl : l.length ≤ 4611686018427387904) : Ev (fun k => laws_eqByteS.f k l l) true := by
  unfold laws_eqByteS.f
  simp only [if_true]
  exact eqByteS_l0 l hl l.length 0 (by omega)
theorem slicesEqualB_l0 (l m : List Int) (e : l.length = m.length) (hl : l.length ≤ 4611686018427387904) (d : Nat) : ∀ i : Nat, i + d = l.length → Ev (fun k => slices_Equal_byte_byte.l0 k l m (l.length : Int) (i : Int)) (l.drop i == m.drop i) := by
  induction d with
  | zero =>
    intro i h
    rw [List.drop_of_length_le (by omega), List.drop_of_length_le (by omega)]
    exact Ev.ret fun k => by simp only [slices_Equal_byte_byte.l0]; rw [if_neg (by omega)]; rfl
  | succ d ih =>
    intro i h
    have hi : i < l.length := by omega
    have hm : i < m.length := by omega
    rw [List.drop_eq_getElem_cons hi, List.drop_eq_getElem_cons hm]
    refine Ev.step (f := fun k => if l[i] = m[i] then slices_Equal_byte_byte.l0 k l m (l.length : Int) ((i + 1 : Nat) : Int) else some false) (fun k => ?_) ?_
    · simp only [slices_Equal_byte_byte.l0]
      rw [if_pos (by omega), if_pos (by omega), if_pos (by omega), if_pos (by omega), rd_nat l i hi, rd_nat m i hm, w64 (by omega) (by omega)]; rfl
    · by_cases c : l[i] = m[i]
      · simp only [if_pos c, List.cons_beq_cons, beq_iff_eq.2 c, Bool.true_and]; exact ih (i + 1) (by omega)
      · have c' : (l[i] == m[i]) = false := by simpa using c
        simp only [if_neg c, List.cons_beq_cons, c', Bool.false_and]; exact Ev.now _
theorem slicesEqualB_ev (l m : List Int) (hl : l.length ≤ 4611686018427387904) : Ev (fun k => slices_Equal_byte_byte.f k l m) (l == m) := by
  unfold slices_Equal_byte_byte.f
  by_cases e : l.length = m.length
  · simp only [if_pos (show (l.length : Int) = (m.length : Int) by omega)]
    have := slicesEqualB_l0 l m e hl l.length 0 (by omega)
    rw [List.drop_zero, List.drop_zero] at this
    exact this
  · simp only [if_neg (show ¬ (l.length : Int) = (m.length : Int) by omega)]
    have : (l == m) = false := by
      rw [beq_eq_false_iff_ne]; intro h; exact e (by rw [h])
    rw [this]; exact Ev.now _
theorem blk_len {p : List Int} {m n : Nat} (hp : p.length = 64 * m) (hn : n < m) : ((p.take (64 * n + 64)).drop (64 * n)).length = 64 := by
  rw [List.length_drop, List.length_take]; omega
theorem blk_ifs {n m : Nat} (hm : m ≤ 1000) (hn : n < m) : ((64 * n : Nat) : Int) < ((64 * m : Nat) : Int) ∧ 0 ≤ ((64 * n : Nat) : Int) ∧ ((64 * n : Nat) : Int) ≤ ((64 * n + 64 : Nat) : Int) ∧ ((64 * n + 64 : Nat) : Int) ≤ ((64 * m : Nat) : Int) ∧ wrap64 (((64 * n : Nat) : Int) + 64) = ((64 * n + 64 : Nat) : Int) := by
  refine ⟨by omega, by omega, by omega, by omega, ?_⟩
  rw [w64 (by omega) (by omega)]; omega
theorem padded_64 (l : List Int) : (padded l).length = 64 * ((padded l).length / 64) := by
  rw [padded_length]; unfold zerosFor; omega
theorem padded_few {l : List Int} (h : l.length ≤ 700) : (padded l).length / 64 ≤ 1000 := by
  rw [padded_length]; unfold zerosFor; omega
theorem szByteS_big {l : List Int} (hl : l.length ≤ 9223372036854775807) {a : Int} (h0 : 0 ≤ a) (h1 : a ≤ 1048576) (h : a < (l.length : Int)) : laws_szByteS.f l a = some (-1) := by
  unfold laws_szByteS.f
  rw [w64 (by omega) (by omega), if_pos (by omega)]
theorem szByteS_ok {l : List Int} {a : Int} (h1 : a ≤ 1048576) (h : (l.length : Int) ≤ a) : laws_szByteS.f l a = some (a - (l.length : Int)) := by
  unfold laws_szByteS.f
  rw [w64 (by omega) (by omega), if_neg (by omega)]
theorem rdLS (xs : List S25) (i : Nat) (h : i < xs.length) : rd_T25 xs (i : Int) = xs[i] := by
  unfold rd_T25; rw [Int.toNat_natCast, List.getD_eq_getElem?_getD, List.getElem?_eq_getElem h]; rfl
theorem rdIS (xs : List S33) (i : Nat) (h : i < xs.length) : rd_T33 xs (i : Int) = xs[i] := by
  unfold rd_T33; rw [Int.toNat_natCast, List.getD_eq_getElem?_getD, List.getElem?_eq_getElem h]; rfl
def toIS (c : S25) : S33 := ⟨c.f0, c.f1⟩
theorem szSecret_big {a : Int} {l : List Int} (hl : l.length ≤ 9223372036854775807) {n : Int} (h0 : 0 ≤ n) (h1 : n ≤ 1048576) (h : n < (l.length : Int)) : laws_szSecret.f a l n = some (-1) := by
  unfold laws_szSecret.f
  rw [szByteS_big hl h0 h1 h]; rfl
theorem szSecret_ok {a : Int} {l : List Int} {n : Int} (h1 : n ≤ 1048576) (h : (l.length : Int) ≤ n) : laws_szSecret.f a l n = some (n - (l.length : Int)) := by
  unfold laws_szSecret.f
  rw [szByteS_ok h1 h]; simp only [Option.bind_some]
  rw [if_neg (by omega)]
theorem toSecret_ev (a : Int) (l : List Int) (hl : l.length ≤ 281474976710656) : Ev (fun k => laws_toSecret.f k a l) (a, l) := by
  unfold laws_toSecret.f
  exact Ev.bind (toByteS_ev l hl) (Ev.now _)
theorem szSecretS_l0 (xs : List S25) (hx : ∀ c ∈ xs, c.f1.length ≤ 9223372036854775807) (hn : xs.length ≤ 1048576) (d : Nat) : ∀ (i : Nat) (a : Int), i + d = xs.length → 0 ≤ a → a ≤ 1048576 → (∀ c ∈ xs.take i, c.f1.length ≤ 1048576) → ∃ v, Ev (fun k => laws_szSecretS.l0 k xs a (i : Int)) v ∧ (v < 0 ∨ 0 ≤ v ∧ v ≤ a ∧ ∀ c ∈ xs, c.f1.length ≤ 1048576) := by
  induction d with
  | zero =>
    intro i a h h0 h1 ht
    refine ⟨a, Ev.ret fun k => ?_, .inr ⟨h0, Int.le_refl _, ?_⟩⟩
    · simp only [laws_szSecretS.l0]; rw [if_neg (by omega)]
    · rw [List.take_of_length_le (by omega)] at ht; exact ht
  | succ d ih =>
    intro i a h h0 h1 ht
    have hi : i < xs.length := by omega
    have hr : rd_T25 xs (i : Int) = xs[i] := rdLS xs i hi
    have hw : wrap64 ((i : Int) + 1) = ((i + 1 : Nat) : Int) := w64_succ (by omega)
    have hmem : xs[i] ∈ xs := List.getElem_mem hi
    by_cases hb : a < (xs[i].f1.length : Int)
    · refine ⟨-1, Ev.step (fun k => by simp only [laws_szSecretS.l0, hr]; rfl) ?_, .inl (by omega)⟩
      exact Ev.pos (by omega) (Ev.pos (by omega) (Ev.bind (Ev.all fun _ => szSecret_big (hx _ hmem) h0 h1 hb) (Ev.pos (by decide) (Ev.now _))))
    · obtain ⟨v, h2, h3⟩ := ih (i + 1) (a - (xs[i].f1.length : Int)) (by omega) (by omega) (by omega) (by
        intro c hc
        rw [List.take_succ_eq_append_getElem hi] at hc
        rcases List.mem_append.1 hc with hc | hc
        · exact ht c hc
        · obtain rfl := List.mem_singleton.1 hc; omega)
      refine ⟨v, Ev.step (fun k => by simp only [laws_szSecretS.l0, hr, hw]; rfl) ?_, h3.imp id fun h => ⟨h.1, by have := h.2.1; omega, h.2.2⟩⟩
      exact Ev.pos (by omega) (Ev.pos (by omega) (Ev.bind (Ev.all fun _ => szSecret_ok h1 (by omega)) (Ev.neg (by omega) h2)))
theorem szSecretS_ev (xs : List S25) (hl : xs.length ≤ 9223372036854775807) (hx : ∀ c ∈ xs, c.f1.length ≤ 9223372036854775807) {a : Int} (a0 : 0 ≤ a) (a1 : a ≤ 1048576) : ∃ v, Ev (fun k => laws_szSecretS.f k xs a) v ∧ (v < 0 ∨ 0 ≤ v ∧ v ≤ a ∧ xs.length ≤ 1048576 ∧ ∀ c ∈ xs, c.f1.length ≤ 1048576) := by
  have hw : wrap64 (a - (xs.length : Int)) = a - (xs.length : Int) := w64 (by omega) (by omega)
  unfold laws_szSecretS.f
  simp only [hw]
  by_cases hb : a < (xs.length : Int)
  · exact ⟨-1, Ev.pos (by omega) (Ev.now _), .inl (by omega)⟩
  · obtain ⟨v, h1, h2⟩ := szSecretS_l0 xs hx (by omega) xs.length 0 (a - (xs.length : Int)) (by omega) (by omega) (by omega) (by intro c hc; rw [List.take_zero] at hc; cases hc)
    exact ⟨v, Ev.neg (by omega) h1, h2.imp id fun h => ⟨h.1, by omega, by omega, h.2.2⟩⟩
theorem toSecretS_l0 (l : List S25) (hx : ∀ c ∈ l, c.f1.length ≤ 1048576) (hn : l.length ≤ 1048576) (d : Nat) : ∀ (i : Nat) (x : List S33), i + d = l.length → x.length = l.length → x.take i = (l.map toIS).take i → Ev (fun k => laws_toSecretS.l0 k l x (i : Int)) (l.map toIS) := by
  induction d with
  | zero =>
    intro i x h hxl ht
    rw [List.take_of_length_le (by omega), List.take_of_length_le (by rw [List.length_map]; omega)] at ht
    subst ht
    exact Ev.ret fun k => by simp only [laws_toSecretS.l0]; rw [if_neg (by omega)]
  | succ d ih =>
    intro i x h hxl ht
    have hi : i < l.length := by omega
    have him : i < (l.map toIS).length := by rw [List.length_map]; exact hi
    have hr : rd_T25 l (i : Int) = l[i] := rdLS l i hi
    have hw : wrap64 ((i : Int) + 1) = ((i + 1 : Nat) : Int) := w64_succ (by omega)
    have hv : (l.map toIS)[i] = (⟨l[i].f0, l[i].f1⟩ : S33) := by rw [List.getElem_map]; rfl
    have hs := take_set_succ x (l.map toIS) i (by omega) him ht
    rw [hv] at hs
    have h2 := ih (i + 1) (x.set i (⟨l[i].f0, l[i].f1⟩ : S33)) (by omega) (by rw [List.length_set]; exact hxl) hs
    refine Ev.step (fun k => by simp only [laws_toSecretS.l0, hr, hw, Int.toNat_natCast]; rfl) ?_
    exact Ev.pos (by omega) (Ev.pos (by omega) (Ev.bind (toSecret_ev l[i].f0 l[i].f1 (by have := hx _ (List.getElem_mem hi); omega)) (Ev.pos (by omega) h2)))
theorem toSecretS_ev (l : List S25) (hx : ∀ c ∈ l, c.f1.length ≤ 1048576) (hn : l.length ≤ 1048576) : Ev (fun k => laws_toSecretS.f k l) (l.map toIS) := by
  have h := toSecretS_l0 l hx hn l.length 0 (List.replicate l.length z33) (by omega) (by simp) (by simp)
  unfold laws_toSecretS.f
  simp only [Int.toNat_natCast]
  exact Ev.pos (by omega) (Ev.pos (by omega) h)
theorem eqSecret_self (a : Int) (l : List Int) (hl : l.length ≤ 4611686018427387904) : Ev (fun k => laws_eqSecret.f k a l a l) true := by
  unfold laws_eqSecret.f
  exact Ev.pos rfl (Ev.bind (eqByteS_self l hl) (Ev.pos rfl (Ev.now _)))
theorem eqSecretS_l0 (l : List S33) (hx : ∀ c ∈ l, c.f1.length ≤ 1048576) (hn : l.length ≤ 1048576) (d : Nat) : ∀ (i : Nat), i + d = l.length → Ev (fun k => laws_eqSecretS.l0 k l l (i : Int)) true := by
  induction d with
  | zero =>
    intro i h
    exact Ev.ret fun k => by simp only [laws_eqSecretS.l0]; rw [if_neg (by omega)]
  | succ d ih =>
    intro i h
    have hi : i < l.length := by omega
    have hr : rd_T33 l (i : Int) = l[i] := rdIS l i hi
    have hw : wrap64 ((i : Int) + 1) = ((i + 1 : Nat) : Int) := w64_succ (by omega)
    refine Ev.step (fun k => by simp only [laws_eqSecretS.l0, hr, hw]; rfl) ?_
    exact Ev.pos (by omega) (Ev.pos (by omega) (Ev.pos (by omega) (Ev.bind (eqSecret_self _ _ (by have := hx _ (List.getElem_mem hi); omega)) (Ev.pos rfl (ih (i + 1) (by omega))))))
theorem eqSecretS_self (l : List S33) (hx : ∀ c ∈ l, c.f1.length ≤ 1048576) (hn : l.length ≤ 1048576) : Ev (fun k => laws_eqSecretS.f k l l) true := by
  unfold laws_eqSecretS.f
  exact Ev.pos rfl (eqSecretS_l0 l hx hn l.length 0 (by omega))
def oneF (c : S33) : Int := if inB c.f0 0 99 = true then (if c.f1.length > 40 then 2 else 0) else 3
def riseF (last : Int) : List S33 → Int
  | [] => 0
  | c :: t => if c.f0 ≤ last then 1 else riseF c.f0 t
def riseN : List S33 → Int
  | [] => 0
  | c :: t => riseF c.f0 t
def eachF : List S33 → Int
  | [] => 0
  | c :: t => if oneF c = 0 then eachF t else oneF c
def secF (l : List S33) : Int := if l.length > 4 then 2 else (if eachF l = 0 then riseN l else eachF l)
def allSameS : List S33 → List S33 → Bool
  | x :: xs, y :: ys => if x.f0 = y.f0 then (if x.f1 = y.f1 then allSameS xs ys else false) else false
  | _, _ => true
def sameSs (xs ys : List S33) : Bool := if xs.length = ys.length then allSameS xs ys else false
theorem specSameS_l0 (xs ys : List S33) (hx : ∀ c ∈ xs, Bytes c.f1) (hy : ∀ c ∈ ys, Bytes c.f1) (hn : xs.length ≤ 1048576) (he : xs.length = ys.length) (d : Nat) : ∀ i : Nat, i + d = xs.length → Ev (fun k => spec_SameSecrets.l0 k xs ys (i : Int)) (allSameS (xs.drop i) (ys.drop i)) := by
  induction d with
  | zero =>
    intro i h
    rw [List.drop_of_length_le (by omega), List.drop_of_length_le (by omega)]
    exact Ev.ret fun k => by simp only [spec_SameSecrets.l0]; rw [if_neg (by omega)]; rfl
  | succ d ih =>
    intro i h
    have hi : i < xs.length := by omega
    have hj : i < ys.length := by omega
    have hr : rd_T33 xs (i : Int) = xs[i] := rdIS xs i hi
    have hs : rd_T33 ys (i : Int) = ys[i] := rdIS ys i hj
    have hw : wrap64 ((i : Int) + 1) = ((i + 1 : Nat) : Int) := w64_succ (by omega)
    have b1 := hx _ (List.getElem_mem hi)
    have b2 := hy _ (List.getElem_mem hj)
    rw [drop_cons xs i hi, drop_cons ys i hj]
    refine Ev.step (fun k => by simp only [spec_SameSecrets.l0, hr, hs, hw]; rfl) (Ev.pos (by omega) (Ev.pos (by omega) (Ev.pos (by omega) ?_)))
    unfold allSameS
    by_cases h0 : xs[i].f0 = ys[i].f0
    · rw [if_pos h0]
      refine Ev.pos h0 ?_
      by_cases h2 : xs[i].f1 = ys[i].f1
      · rw [if_pos h2]; exact Ev.pos (by rw [h2]) (ih (i + 1) (by omega))
      · rw [if_neg h2]; exact Ev.neg (fun e => h2 (strOf_inj b1 b2 e)) (Ev.now _)
    · rw [if_neg h0]; exact Ev.neg h0 (Ev.now _)
theorem specSameSecrets_ev (xs ys : List S33) (hx : ∀ c ∈ xs, Bytes c.f1) (hy : ∀ c ∈ ys, Bytes c.f1) (hn : xs.length ≤ 1048576) : Ev (fun k => spec_SameSecrets.f k xs ys) (sameSs xs ys) := by
  unfold spec_SameSecrets.f sameSs
  by_cases he : xs.length = ys.length
  · rw [if_pos he]; exact Ev.pos (by omega) (specSameS_l0 xs ys hx hy hn he xs.length 0 (by omega))
  · rw [if_neg he]; exact Ev.neg (by omega) (Ev.now _)
theorem sameSecret_ev (a c : Int) (l m : List Int) (hl : l.length ≤ 4611686018427387904) : Ev (fun k => impl_SameSecrets_1.f k a l c m) (if a = c then (l == m) else false) := by
  unfold impl_SameSecrets_1.f
  by_cases h0 : a = c
  · rw [if_pos h0]
    exact Ev.pos h0 (Ev.bind (slicesEqualB_ev l m hl) (Ev.now _))
  · rw [if_neg h0]; exact Ev.neg h0 (Ev.now _)
theorem EqualS_l0 (xs ys : List S33) (hx : ∀ c ∈ xs, c.f1.length ≤ 1048576) (hn : xs.length ≤ 1048576) (he : xs.length = ys.length) (d : Nat) : ∀ i : Nat, i + d = xs.length → Ev (fun k => impl_Secret.l0 k ys xs (xs.length : Int) (i : Int)) (allSameS (xs.drop i) (ys.drop i)) := by
  induction d with
  | zero =>
    intro i h
    rw [List.drop_of_length_le (by omega), List.drop_of_length_le (by omega)]
    exact Ev.ret fun k => by simp only [impl_Secret.l0]; rw [if_neg (by omega)]; rfl
  | succ d ih =>
    intro i h
    have hi : i < xs.length := by omega
    have hj : i < ys.length := by omega
    have hr : rd_T33 xs (i : Int) = xs[i] := rdIS xs i hi
    have hs : rd_T33 ys (i : Int) = ys[i] := rdIS ys i hj
    have hw : wrap64 ((i : Int) + 1) = ((i + 1 : Nat) : Int) := w64_succ (by omega)
    have hb := hx _ (List.getElem_mem hi)
    rw [drop_cons xs i hi, drop_cons ys i hj]
    refine Ev.step (fun k => by simp only [impl_Secret.l0, hr, hs, hw]; rfl) (Ev.pos (by omega) (Ev.pos (by omega) (Ev.pos (by omega) (Ev.pos (by omega) (Ev.bind (sameSecret_ev xs[i].f0 ys[i].f0 xs[i].f1 ys[i].f1 (by omega)) ?_)))))
    unfold allSameS
    by_cases h0 : xs[i].f0 = ys[i].f0
    · rw [if_pos h0, if_pos h0]
      by_cases h2 : xs[i].f1 = ys[i].f1
      · rw [if_pos h2]; exact Ev.pos (beq_iff_eq.2 h2) (ih (i + 1) (by omega))
      · rw [if_neg h2]; exact Ev.neg (fun e => h2 (beq_iff_eq.1 e)) (Ev.now _)
    · rw [if_neg h0, if_neg h0]; exact Ev.neg (by decide) (Ev.now _)
theorem EqualS_ev (xs ys : List S33) (hx : ∀ c ∈ xs, c.f1.length ≤ 1048576) (hn : xs.length ≤ 1048576) : Ev (fun k => impl_Secret.f k xs ys) (sameSs xs ys) := by
  unfold impl_Secret.f sameSs
  by_cases he : xs.length = ys.length
  · rw [if_pos he]; exact Ev.pos (by omega) (EqualS_l0 xs ys hx hn he xs.length 0 (by omega))
  · rw [if_neg he]; exact Ev.neg (by omega) (Ev.now _)
theorem implSameSecrets_ev (xs ys : List S33) (hx : ∀ c ∈ xs, c.f1.length ≤ 1048576) (hn : xs.length ≤ 1048576) : Ev (fun k => impl_SameSecrets.f k xs ys) (sameSs xs ys) := by
  unfold impl_SameSecrets.f
  exact Ev.bind (EqualS_ev xs ys hx hn) (Ev.now _)
theorem FnExactSameSecrets : laws_FnExactSameSecrets.Pure := by
  intro l m hl hm
  have hx : ∀ c ∈ l, c.f1.length ≤ 9223372036854775807 := fun c hc => (hl.2 c hc).2.1
  have hy : ∀ c ∈ m, c.f1.length ≤ 9223372036854775807 := fun c hc => (hm.2 c hc).2.1
  apply Ev.rounds
  unfold laws_FnExactSameSecrets.f
  obtain ⟨v, hv, h⟩ := szSecretS_ev l hl.1 hx (a := 1048576) (by omega) (by omega)
  rcases h with h | ⟨h0, hv1, hn, hc⟩
  · exact Ev.bind hv (Ev.pos h (Ev.now _))
  obtain ⟨u, hu, g⟩ := szSecretS_ev m hm.1 hy (a := v) (by omega) (by omega)
  refine Ev.bind hv (Ev.neg (by omega) ?_)
  rcases g with g | ⟨g0, _, gn, gc⟩
  · exact Ev.bind hu (Ev.pos g (Ev.now _))
  have kl : ∀ c ∈ l.map toIS, c.f1.length ≤ 1048576 := by
    intro c hc2; obtain ⟨x, hx, rfl⟩ := List.mem_map.1 hc2; exact hc x hx
  have km : ∀ c ∈ m.map toIS, c.f1.length ≤ 1048576 := by
    intro c hc2; obtain ⟨x, hx, rfl⟩ := List.mem_map.1 hc2; exact gc x hx
  have bl : ∀ c ∈ l.map toIS, Bytes c.f1 := by
    intro c hc2; obtain ⟨x, hx, rfl⟩ := List.mem_map.1 hc2; exact Bytes.of_wf (hl.2 x hx).2.2
  have bm : ∀ c ∈ m.map toIS, Bytes c.f1 := by
    intro c hc2; obtain ⟨x, hx, rfl⟩ := List.mem_map.1 hc2; exact Bytes.of_wf (hm.2 x hx).2.2
  have nl : (l.map toIS).length ≤ 1048576 := by rw [List.length_map]; exact hn
  have nm : (m.map toIS).length ≤ 1048576 := by rw [List.length_map]; exact gn
  have hT := toSecretS_ev l hc hn
  have hU := toSecretS_ev m gc gn
  refine Ev.bind hu (Ev.neg (by omega) (Ev.bind hT (Ev.bind hU (Ev.bind (specSameSecrets_ev _ _ bl bm nl) (Ev.bind hT (Ev.bind hU (Ev.bind (implSameSecrets_ev _ _ kl nl) (Ev.neg (by simp) ?_))))))))
  refine Ev.bind hT (Ev.bind (eqSecretS_self _ kl nl) (Ev.pos rfl ?_))
  exact Ev.bind hU (Ev.bind (eqSecretS_self _ km nm) (Ev.pos rfl (Ev.now _)))
end FnExactSameSecrets_
theorem FnExactSameSecrets : laws_FnExactSameSecrets.Pure := FnExactSameSecrets_.FnExactSameSecrets
end Go.Proofs.Ytacfebnfdmbkaaa.Pure
