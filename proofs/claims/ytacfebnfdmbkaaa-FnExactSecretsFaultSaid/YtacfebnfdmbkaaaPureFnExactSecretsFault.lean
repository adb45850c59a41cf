/- The pure statement of FnExactSecretsFault: what the printed functions of the program and of the reference compute makes the law answer true, for all arguments (each number of its kind). -/
import Derived.Test.YtacfebnfdmbkaaaPFnExactSecretsFaultx3
import Derived.Test.YtacfebnfdmbkaaaBase
set_option linter.unusedVariables false
set_option linter.unusedSimpArgs false
namespace Go.Proofs.Ytacfebnfdmbkaaa.Pure
open Go.RowKit Go.Proofs.Ytacfebnfdmbkaaa.PFnExactSecretsFault Go.Proofs.YtacfebnfdmbkaaaW.PrintWords Go.Proofs.YtacfebnfdmbkaaaW.PrintLast Go.Proofs.YtacfebnfdmbkaaaW.PrintMore Go.Proofs.Ytacfebnfdmbkaaa.Base
namespace FnExactSecretsFault_
theorem l1In_eq (a b c : Int) : spec_l1In.f a b c = some (inB a b c) := ge_le
theorem within_eq (a b c : Int) : impl_within.f a b c = some (inB a b c) := ge_le
theorem toByteS_l0 (l : List Int) (hl : l.length ≤ 281474976710656) (d : Nat) : ∀ (i : Nat) (x : List Int), i + d = l.length → x.length = l.length → x.take i = l.take i → Ev (fun k => laws_toByteS.l0 k l x (i : Int)) l := by
  induction d with
  | zero =>
    intro i x h hx ht
    have e : x = l := by
      rw [List.take_of_length_le (by omega), List.take_of_length_le (by omega)] at ht
      exact ht
    subst e
    exact Ev.ret fun k => by simp only [laws_toByteS.l0]; rw [if_neg (by omega)]
  | succ d ih =>
    intro i x h hx ht
    have hi : i < l.length := by omega
    refine Ev.step (f := fun k => laws_toByteS.l0 k l (x.set i l[i]) ((i + 1 : Nat) : Int)) (fun k => ?_) ?_
    · simp only [laws_toByteS.l0]
      rw [if_pos (by omega), if_pos (by omega), if_pos (by omega), rd_nat l i hi, w64 (by omega) (by omega)]
      simp only [Int.toNat_natCast]; rfl
    · refine ih (i + 1) _ (by omega) (by rw [List.length_set]; exact hx) ?_
      rw [List.take_succ_eq_append_getElem (by rw [List.length_set]; omega), List.take_succ_eq_append_getElem hi, List.getElem_set_self, List.take_set_of_le (by omega), ht]
theorem toByteS_ev (l : List Int) (hl : l.length ≤ 281474976710656) : Ev (fun k => laws_toByteS.f k l) l := by
  unfold laws_toByteS.f
  simp only [if_pos (show (0 : Int) ≤ (l.length : Int) by omega), if_pos (show ((l.length : Int) : Int).toNat ≤ 281474976710656 by omega)]
  exact toByteS_l0 l hl l.length 0 _ (by omega) (by simp) (by simp)
theorem eqByteS_l0 (l : List Int) (hl : l.length ≤ 4611686018427387904) (d : Nat) : ∀ i : Nat, i + d = l.length → Ev (fun k => laws_eqByteS.l0 k l l (i : Int)) true := by
  induction d with
  | zero =>
    intro i h
    exact Ev.ret fun k => by simp only [laws_eqByteS.l0]; rw [if_neg (by omega)]
  | succ d ih =>
    intro i h
    refine Ev.step (f := fun k => laws_eqByteS.l0 k l l ((i + 1 : Nat) : Int)) (fun k => ?_) (ih (i + 1) (by omega))
    simp only [laws_eqByteS.l0]
    rw [if_pos (by omega), if_pos (by omega), if_pos (by omega), if_pos (by trivial), w64 (by omega) (by omega)]; rfl
theorem eqByteS_self (l : List Int) (hl : l.length ≤ 4611686018427387904) : Ev (fun k => laws_eqByteS.f k l l) true := by
  unfold laws_eqByteS.f
  simp only [if_true]
  exact eqByteS_l0 l hl l.length 0 (by omega)
theorem blk_len {p : List Int} {m n : Nat} (hp : p.length = 64 * m) (hn : n < m) : ((p.take (64 * n + 64)).drop (64 * n)).length = 64 := by
  rw [List.length_drop, List.length_take]; omega
theorem blk_ifs {n m : Nat} (hm : m ≤ 1000) (hn : n < m) : ((64 * n : Nat) : Int) < ((64 * m : Nat) : Int) ∧ 0 ≤ ((64 * n : Nat) : Int) ∧ ((64 * n : Nat) : Int) ≤ ((64 * n + 64 : Nat) : Int) ∧ ((64 * n + 64 : Nat) : Int) ≤ ((64 * m : Nat) : Int) ∧ wrap64 (((64 * n : Nat) : Int) + 64) = ((64 * n + 64 : Nat) : Int) := by
  refine ⟨by omega, by omega, by omega, by omega, ?_⟩
  rw [w64 (by omega) (by omega)]; omega
theorem padded_64 (l : List Int) : (padded l).length = 64 * ((padded l).length / 64) := by
  rw [padded_length]; unfold zerosFor; omega
theorem padded_few {l : List Int} (h : l.length ≤ 700) : (padded l).length / 64 ≤ 1000 := by
  rw [padded_length]; unfold zerosFor; omega
theorem szByteS_big {l : List Int} (hl : l.length ≤ 9223372036854775807) {a : Int} (h0 : 0 ≤ a) (h1 : a ≤ 1048576) (h : a < (l.length : Int)) : laws_szByteS.f l a = some (-1) := by
  unfold laws_szByteS.f
  rw [w64 (by omega) (by omega), if_pos (by omega)]
theorem szByteS_ok {l : List Int} {a : Int} (h1 : a ≤ 1048576) (h : (l.length : Int) ≤ a) : laws_szByteS.f l a = some (a - (l.length : Int)) := by
  unfold laws_szByteS.f
  rw [w64 (by omega) (by omega), if_neg (by omega)]
theorem rdLS (xs : List S25) (i : Nat) (h : i < xs.length) : rd_T25 xs (i : Int) = xs[i] := by
  unfold rd_T25; rw [Int.toNat_natCast, List.getD_eq_getElem?_getD, List.getElem?_eq_getElem h]; rfl
theorem rdIS (xs : List S33) (i : Nat) (h : i < xs.length) : rd_T33 xs (i : Int) = xs[i] := by
  unfold rd_T33; rw [Int.toNat_natCast, List.getD_eq_getElem?_getD, List.getElem?_eq_getElem h]; rfl
def toIS (c : S25) : S33 := ⟨c.f0, c.f1⟩
theorem szSecret_big {a : Int} {l : List Int} (hl : l.length ≤ 9223372036854775807) {n : Int} (h0 : 0 ≤ n) (h1 : n ≤ 1048576) (h : n < (l.length : Int)) : laws_szSecret.f a l n = some (-1) := by
  unfold laws_szSecret.f
  rw [szByteS_big hl h0 h1 h]; rfl
theorem szSecret_ok {a : Int} {l : List Int} {n : Int} (h1 : n ≤ 1048576) (h : (l.length : Int) ≤ n) : laws_szSecret.f a l n = some (n - (l.length : Int)) := by
  unfold laws_szSecret.f
  rw [szByteS_ok h1 h]; simp only [Option.bind_some]
  rw [if_neg (by omega)]
theorem toSecret_ev (a : Int) (l : List Int) (hl : l.length ≤ 281474976710656) : Ev (fun k => laws_toSecret.f k a l) (a, l) := by
  unfold laws_toSecret.f
  exact Ev.bind (toByteS_ev l hl) (Ev.now _)
theorem szSecretS_l0 (xs : List S25) (hx : ∀ c ∈ xs, c.f1.length ≤ 9223372036854775807) (hn : xs.length ≤ 1048576) (d : Nat) : ∀ (i : Nat) (a : Int), i + d = xs.length → 0 ≤ a → a ≤ 1048576 → (∀ c ∈ xs.take i, c.f1.length ≤ 1048576) → ∃ v, Ev (fun k => laws_szSecretS.l0 k xs a (i : Int)) v ∧ (v < 0 ∨ 0 ≤ v ∧ v ≤ a ∧ ∀ c ∈ xs, c.f1.length ≤ 1048576) := by
  induction d with
  | zero =>
    intro i a h h0 h1 ht
    refine ⟨a, Ev.ret fun k => ?_, .inr ⟨h0, Int.le_refl _, ?_⟩⟩
    · simp only [laws_szSecretS.l0]; rw [if_neg (by omega)]
    · rw [List.take_of_length_le (by omega)] at ht; exact ht
  | succ d ih =>
    intro i a h h0 h1 ht
    have hi : i < xs.length := by omega
    have hr : rd_T25 xs (i : Int) = xs[i] := rdLS xs i hi
    have hw : wrap64 ((i : Int) + 1) = ((i + 1 : Nat) : Int) := w64_succ (by omega)
    have hmem : xs[i] ∈ xs := List.getElem_mem hi
    by_cases hb : a < (xs[i].f1.length : Int)
    · refine ⟨-1, Ev.step (fun k => by simp only [laws_szSecretS.l0, hr]; rfl) ?_, .inl (by omega)⟩
      exact Ev.pos (by omega) (Ev.pos (by omega) (Ev.bind (Ev.all fun _ => szSecret_big (hx _ hmem) h0 h1 hb) (Ev.pos (by decide) (Ev.now _))))
    · obtain ⟨v, h2, h3⟩ := ih (i + 1) (a - (xs[i].f1.length : Int)) (by omega) (by omega) (by omega) (by
        intro c hc
        rw [List.take_succ_eq_append_getElem hi] at hc
        rcases List.mem_append.1 hc with hc | hc
        · exact ht c hc
        · obtain rfl := List.mem_singleton.1 hc; omega)
      refine ⟨v, Ev.step (fun k => by simp only [laws_szSecretS.l0, hr, hw]; rfl) ?_, h3.imp id fun h => ⟨h.1, by have := h.2.1; omega, h.2.2⟩⟩
      exact Ev.pos (by omega) (Ev.pos (by omega) (Ev.bind (Ev.all fun _ => szSecret_ok h1 (by omega)) (Ev.neg (by omega) h2)))
theorem szSecretS_ev (xs : List S25) (hl : xs.length ≤ 9223372036854775807) (hx : ∀ c ∈ xs, c.f1.length ≤ 9223372036854775807) {a : Int} (a0 : 0 ≤ a) (a1 : a ≤ 1048576) : ∃ v, Ev (fun k => laws_szSecretS.f k xs a) v ∧ (v < 0 ∨ 0 ≤ v ∧ v ≤ a ∧ xs.length ≤ 1048576 ∧ ∀ c ∈ xs, c.f1.length ≤ 1048576) := by
  have hw : wrap64 (a - (xs.length : Int)) = a - (xs.length : Int) := w64 (by omega) (by omega)
  unfold laws_szSecretS.f
  simp only [hw]
  by_cases hb : a < (xs.length : Int)
  · exact ⟨-1, Ev.pos (by omega) (Ev.now _), .inl (by omega)⟩
  · obtain ⟨v, h1, h2⟩ := szSecretS_l0 xs hx (by omega) xs.length 0 (a - (xs.length : Int)) (by omega) (by omega) (by omega) (by intro c hc; rw [List.take_zero] at hc; cases hc)
    exact ⟨v, Ev.neg (by omega) h1, h2.imp id fun h => ⟨h.1, by omega, by omega, h.2.2⟩⟩
theorem toSecretS_l0 (l : List S25) (hx : ∀ c ∈ l, c.f1.length ≤ 1048576) (hn : l.length ≤ 1048576) (d : Nat) : ∀ (i : Nat) (x : List S33), i + d = l.length → x.length = l.length → x.take i = (l.map toIS).take i → Ev (fun k => laws_toSecretS.l0 k l x (i : Int)) (l.map toIS) := by
  induction d with
  | zero =>
    intro i x h hxl ht
    rw [List.take_of_length_le (by omega), List.take_of_length_le (by rw [List.length_map]; omega)] at ht
    subst ht
    exact Ev.ret fun k => by simp only [laws_toSecretS.l0]; rw [if_neg (by omega)]
  | succ d ih =>
    intro i x h hxl ht
    have hi : i < l.length := by omega
    have him : i < (l.map toIS).length := by rw [List.length_map]; exact hi
    have hr : rd_T25 l (i : Int) = l[i] := rdLS l i hi
    have hw : wrap64 ((i : Int) + 1) = ((i + 1 : Nat) : Int) := w64_succ (by omega)
    have hv : (l.map toIS)[i] = (⟨l[i].f0, l[i].f1⟩ : S33) := by rw [List.getElem_map]; rfl
    have hs := take_set_succ x (l.map toIS) i (by omega) him ht
    rw [hv] at hs
    have h2 := ih (i + 1) (x.set i (⟨l[i].f0, l[i].f1⟩ : S33)) (by omega) (by rw [List.length_set]; exact hxl) hs
    refine Ev.step (fun k => by simp only [laws_toSecretS.l0, hr, hw, Int.toNat_natCast]; rfl) ?_
    exact Ev.pos (by omega) (Ev.pos (by omega) (Ev.bind (toSecret_ev l[i].f0 l[i].f1 (by have := hx _ (List.getElem_mem hi); omega)) (Ev.pos (by omega) h2)))
theorem toSecretS_ev (l : List S25) (hx : ∀ c ∈ l, c.f1.length ≤ 1048576) (hn : l.length ≤ 1048576) : Ev (fun k => laws_toSecretS.f k l) (l.map toIS) := by
  have h := toSecretS_l0 l hx hn l.length 0 (List.replicate l.length z33) (by omega) (by simp) (by simp)
  unfold laws_toSecretS.f
  simp only [Int.toNat_natCast]
  exact Ev.pos (by omega) (Ev.pos (by omega) h)
theorem eqSecret_self (a : Int) (l : List Int) (hl : l.length ≤ 4611686018427387904) : Ev (fun k => laws_eqSecret.f k a l a l) true := by
  unfold laws_eqSecret.f
  exact Ev.pos rfl (Ev.bind (eqByteS_self l hl) (Ev.pos rfl (Ev.now _)))
theorem eqSecretS_l0 (l : List S33) (hx : ∀ c ∈ l, c.f1.length ≤ 1048576) (hn : l.length ≤ 1048576) (d : Nat) : ∀ (i : Nat), i + d = l.length → Ev (fun k => laws_eqSecretS.l0 k l l (i : Int)) true := by
  induction d with
  | zero =>
    intro i h
    exact Ev.ret fun k => by simp only [laws_eqSecretS.l0]; rw [if_neg (by omega)]
  | succ d ih =>
    intro i h
    have hi : i < l.length := by omega
    have hr : rd_T33 l (i : Int) = l[i] := rdIS l i hi
    have hw : wrap64 ((i : Int) + 1) = ((i + 1 : Nat) : Int) := w64_succ (by omega)
    refine Ev.step (fun k => by simp only [laws_eqSecretS.l0, hr, hw]; rfl) ?_
    exact Ev.pos (by omega) (Ev.pos (by omega) (Ev.pos (by omega) (Ev.bind (eqSecret_self _ _ (by have := hx _ (List.getElem_mem hi); omega)) (Ev.pos rfl (ih (i + 1) (by omega))))))
theorem eqSecretS_self (l : List S33) (hx : ∀ c ∈ l, c.f1.length ≤ 1048576) (hn : l.length ≤ 1048576) : Ev (fun k => laws_eqSecretS.f k l l) true := by
  unfold laws_eqSecretS.f
  exact Ev.pos rfl (eqSecretS_l0 l hx hn l.length 0 (by omega))
def oneF (c : S33) : Int := if inB c.f0 0 99 = true then (if c.f1.length > 40 then 2 else 0) else 3
def riseF (last : Int) : List S33 → Int
  | [] => 0
  | c :: t => if c.f0 ≤ last then 1 else riseF c.f0 t
def riseN : List S33 → Int
  | [] => 0
  | c :: t => riseF c.f0 t
def eachF : List S33 → Int
  | [] => 0
  | c :: t => if oneF c = 0 then eachF t else oneF c
def secF (l : List S33) : Int := if l.length > 4 then 2 else (if eachF l = 0 then riseN l else eachF l)
theorem l6Fault_eq (c : S33) : spec_l6Fault.f c.f0 c.f1 = some (oneF c) := by
  unfold spec_l6Fault.f oneF
  rw [l1In_eq]; simp only [Option.bind_some]
  by_cases h0 : inB c.f0 0 99 = true
  · rw [if_pos h0, if_pos h0]
    by_cases h1 : c.f1.length > 40
    · rw [if_pos h1, if_pos (by omega)]
    · rw [if_neg h1, if_neg (by omega)]
  · rw [if_neg h0, if_neg h0]
theorem secretCode_eq (c : S33) : impl_secretCode.f c.f0 c.f1 = some (oneF c) := by
  unfold impl_secretCode.f impl_isId.f oneF
  rw [within_eq]; simp only [Option.bind_some]
  by_cases h0 : inB c.f0 0 99 = true
  · rw [if_pos h0, if_pos h0]
    by_cases h1 : c.f1.length > 40
    · rw [if_pos h1, if_pos (by omega)]
    · rw [if_neg h1, if_neg (by omega)]
  · rw [if_neg h0, if_neg h0]
theorem specSecrets_l1 (l : List S33) (hl : l.length ≤ 1000) (d : Nat) : ∀ (i : Nat) (last : Int), i + d = l.length → 0 < i → (∀ h : i - 1 < l.length, l[i - 1].f0 = last) → Ev (fun k => spec_SecretsFault.l1 k l (i : Int)) (riseF last (l.drop i)) := by
  induction d with
  | zero =>
    intro i last h hp hq
    refine Ev.ret fun k => ?_
    simp only [spec_SecretsFault.l1]
    rw [if_neg (by omega), List.drop_of_length_le (by omega)]; rfl
  | succ d ih =>
    intro i last h hp hq
    have hi : i < l.length := by omega
    have hr : rd_T33 l (i : Int) = l[i] := rdIS l i hi
    have hw : wrap64 ((i : Int) + 1) = ((i + 1 : Nat) : Int) := w64_succ (by omega)
    have hm : wrap64 ((i : Int) - 1) = (i : Int) - 1 := w64 (by omega) (by omega)
    have hr2 : rd_T33 l ((i : Int) - 1) = l[i - 1] := by
      have := rdIS l (i - 1) (by omega)
      rw [show ((i - 1 : Nat) : Int) = (i : Int) - 1 by omega] at this
      exact this
    have hl2 := hq (by omega)
    rw [drop_cons l i hi]
    refine Ev.step (fun k => by simp only [spec_SecretsFault.l1, hr, hw, hm, hr2, hl2]; rfl) (Ev.pos (by omega) (Ev.pos (by omega) (Ev.pos (by omega) (Ev.pos (by omega) ?_))))
    unfold riseF
    by_cases h0 : l[i].f0 ≤ last
    · rw [if_pos h0]; exact Ev.pos h0 (Ev.now _)
    · rw [if_neg h0]; exact Ev.neg h0 (ih (i + 1) l[i].f0 (by omega) (by omega) (fun _ => rfl))
theorem riseN_eq (l : List S33) : riseN l = if h : 0 < l.length then riseF l[0].f0 (l.drop 1) else 0 := by
  cases l with
  | nil => rfl
  | cons x t => rfl
theorem specSecrets_n (l : List S33) (hl : l.length ≤ 1000) : Ev (fun k => spec_SecretsFault.l1 k l 1) (riseN l) := by
  rw [riseN_eq]
  by_cases h : 0 < l.length
  · rw [dif_pos h]
    exact specSecrets_l1 l hl (l.length - 1) 1 l[0].f0 (by omega) (by omega) (fun _ => rfl)
  · rw [dif_neg h]
    exact Ev.ret fun k => by simp only [spec_SecretsFault.l1]; rw [if_neg (by omega)]
theorem specSecrets_l0 (l : List S33) (hl : l.length ≤ 1000) (d : Nat) : ∀ i : Nat, i + d = l.length → Ev (fun k => spec_SecretsFault.l0 k l (i : Int)) (if eachF (l.drop i) = 0 then riseN l else eachF (l.drop i)) := by
  induction d with
  | zero =>
    intro i h
    rw [List.drop_of_length_le (by omega), if_pos (show eachF [] = 0 from rfl)]
    exact Ev.step (fun k => by simp only [spec_SecretsFault.l0]; rfl) (Ev.neg (by omega) (specSecrets_n l hl))
  | succ d ih =>
    intro i h
    have hi : i < l.length := by omega
    have hr : rd_T33 l (i : Int) = l[i] := rdIS l i hi
    have hw : wrap64 ((i : Int) + 1) = ((i + 1 : Nat) : Int) := w64_succ (by omega)
    rw [drop_cons l i hi]
    refine Ev.step (fun k => by simp only [spec_SecretsFault.l0, hr, hw, l6Fault_eq, Option.bind_some]; rfl) (Ev.pos (by omega) (Ev.pos (by omega) ?_))
    show Ev _ (if (if oneF l[i] = 0 then eachF (l.drop (i + 1)) else oneF l[i]) = 0 then riseN l else (if oneF l[i] = 0 then eachF (l.drop (i + 1)) else oneF l[i]))
    by_cases h0 : oneF l[i] = 0
    · simp only [if_pos h0]; exact ih (i + 1) (by omega)
    · simp only [if_neg h0]; exact Ev.now _
theorem specSecretsFault_ev (l : List S33) : Ev (fun k => spec_SecretsFault.f k l) (secF l) := by
  unfold spec_SecretsFault.f secF
  by_cases h : l.length > 4
  · rw [if_pos h]; exact Ev.pos (by omega) (Ev.now _)
  · rw [if_neg h]
    exact Ev.neg (by omega) (specSecrets_l0 l (by omega) l.length 0 (by omega))
theorem riseN_eq2 (l : List S33) : riseN l = if h : 0 < l.length then riseF l[0].f0 (l.drop 1) else 0 := by
  cases l with
  | nil => rfl
  | cons x t => rfl
theorem implSecrets_l1 (l : List S33) (hl : l.length ≤ 1000) (d : Nat) : ∀ (i : Nat) (last : Int), i + d = l.length → 0 < i → (∀ h : i - 1 < l.length, l[i - 1].f0 = last) → Ev (fun k => impl_SecretsFault.l1 k l (i : Int)) (riseF last (l.drop i)) := by
  induction d with
  | zero =>
    intro i last h hp hq
    refine Ev.ret fun k => ?_
    simp only [impl_SecretsFault.l1]
    rw [if_neg (by omega), List.drop_of_length_le (by omega)]; rfl
  | succ d ih =>
    intro i last h hp hq
    have hi : i < l.length := by omega
    have hr : rd_T33 l (i : Int) = l[i] := rdIS l i hi
    have hw : wrap64 ((i : Int) + 1) = ((i + 1 : Nat) : Int) := w64_succ (by omega)
    have hm : wrap64 ((i : Int) - 1) = (i : Int) - 1 := w64 (by omega) (by omega)
    have hr2 : rd_T33 l ((i : Int) - 1) = l[i - 1] := by
      have := rdIS l (i - 1) (by omega)
      rw [show ((i - 1 : Nat) : Int) = (i : Int) - 1 by omega] at this
      exact this
    have hl2 := hq (by omega)
    rw [drop_cons l i hi]
    refine Ev.step (fun k => by simp only [impl_SecretsFault.l1, hr, hw, hm, hr2, hl2]; rfl) (Ev.pos (by omega) (Ev.pos (by omega) (Ev.pos (by omega) (Ev.pos (by omega) ?_))))
    unfold riseF
    by_cases h0 : l[i].f0 ≤ last
    · rw [if_pos h0]; exact Ev.pos h0 (Ev.now _)
    · rw [if_neg h0]; exact Ev.neg h0 (ih (i + 1) l[i].f0 (by omega) (by omega) (fun _ => rfl))
theorem implSecrets_n (l : List S33) (hl : l.length ≤ 1000) : Ev (fun k => impl_SecretsFault.l1 k l 1) (riseN l) := by
  rw [riseN_eq2]
  by_cases h : 0 < l.length
  · rw [dif_pos h]
    exact implSecrets_l1 l hl (l.length - 1) 1 l[0].f0 (by omega) (by omega) (fun _ => rfl)
  · rw [dif_neg h]
    exact Ev.ret fun k => by simp only [impl_SecretsFault.l1]; rw [if_neg (by omega)]
theorem implSecrets_l0 (l : List S33) (hl : l.length ≤ 1000) (d : Nat) : ∀ i : Nat, i + d = l.length → Ev (fun k => impl_SecretsFault.l0 k l l (l.length : Int) (i : Int)) (if eachF (l.drop i) = 0 then riseN l else eachF (l.drop i)) := by
  induction d with
  | zero =>
    intro i h
    rw [List.drop_of_length_le (by omega), if_pos (show eachF [] = 0 from rfl)]
    exact Ev.step (fun k => by simp only [impl_SecretsFault.l0]; rfl) (Ev.neg (by omega) (implSecrets_n l hl))
  | succ d ih =>
    intro i h
    have hi : i < l.length := by omega
    have hr : rd_T33 l (i : Int) = l[i] := rdIS l i hi
    have hw : wrap64 ((i : Int) + 1) = ((i + 1 : Nat) : Int) := w64_succ (by omega)
    rw [drop_cons l i hi]
    refine Ev.step (fun k => by simp only [impl_SecretsFault.l0, hr, hw, secretCode_eq, Option.bind_some]; rfl) (Ev.pos (by omega) (Ev.pos (by omega) (Ev.pos (by omega) ?_)))
    show Ev _ (if (if oneF l[i] = 0 then eachF (l.drop (i + 1)) else oneF l[i]) = 0 then riseN l else (if oneF l[i] = 0 then eachF (l.drop (i + 1)) else oneF l[i]))
    by_cases h0 : oneF l[i] = 0
    · simp only [if_pos h0]; exact ih (i + 1) (by omega)
    · simp only [if_neg h0]; exact Ev.now _
theorem implSecretsFault_ev (l : List S33) : Ev (fun k => impl_SecretsFault.f k l) (secF l) := by
  unfold impl_SecretsFault.f secF
  by_cases h : l.length > 4
  · rw [if_pos h]; exact Ev.pos (by omega) (Ev.now _)
  · rw [if_neg h]
    exact Ev.neg (by omega) (implSecrets_l0 l (by omega) l.length 0 (by omega))
theorem FnExactSecretsFault : laws_FnExactSecretsFault.Pure := by
  intro l hl
  have hx : ∀ c ∈ l, c.f1.length ≤ 9223372036854775807 := fun c hc => (hl.2 c hc).2.1
  apply Ev.rounds
  unfold laws_FnExactSecretsFault.f
  obtain ⟨v, hv, h⟩ := szSecretS_ev l hl.1 hx (a := 1048576) (by omega) (by omega)
  rcases h with h | ⟨h0, _, hn, hc⟩
  · exact Ev.bind hv (Ev.pos h (Ev.now _))
  have hm : ∀ c ∈ l.map toIS, c.f1.length ≤ 1048576 := by
    intro c hc2
    obtain ⟨x, hx, rfl⟩ := List.mem_map.1 hc2
    exact hc x hx
  have hT := toSecretS_ev l hc hn
  refine Ev.bind hv (Ev.neg (by omega) (Ev.bind hT (Ev.bind (specSecretsFault_ev (l.map toIS)) (Ev.bind hT (Ev.bind (implSecretsFault_ev (l.map toIS)) (Ev.pos rfl ?_))))))
  exact Ev.bind hT (Ev.bind (eqSecretS_self _ hm (by rw [List.length_map]; exact hn)) (Ev.pos rfl (Ev.now _)))
end FnExactSecretsFault_
theorem FnExactSecretsFault : laws_FnExactSecretsFault.Pure := FnExactSecretsFault_.FnExactSecretsFault
end Go.Proofs.Ytacfebnfdmbkaaa.Pure
