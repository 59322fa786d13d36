/- A part of the proof of the statement C: what is proved here of the program serves its last text; its conditions stand in the theorems. -/
import Derived.Test.YtcmcopieagpppaaGreatDoorKC1
import Derived.Test.YtcmcopieagpppaaGreatDoorKC2
import Derived.Test.YtcmcopieagpppaaGreatDoorKC4
import Derived.BigQuiet
import Derived.Deep.QuietTactic
import Derived.Deep.RegionWith
import Derived.Laws.IdiomCopy
import Derived.Laws.OwnMore
import Derived.Lib.MapLaws
import Derived.Shelf.Unicode.ValidAny
namespace Go.Proofs.YtcmcopieagpppaaGreatDoor.P
set_option linter.unusedVariables false
set_option linter.unusedSimpArgs false
theorem byte_all {P : UInt8 → Prop} (h : ∀ n : Nat, n < 256 → P (UInt8.ofNat n)) (c : UInt8) : P c := by
  have := h c.toNat c.toNat_lt
  rwa [UInt8.ofNat_toNat] at this
theorem inSet_pct (k : Nat) : Web.inSet k 37 = false := by
  have key : ∀ k : Nat, k < 5 → Web.inSet k 37 = false := by decide +kernel
  by_cases h : k < 5
  · exact key k h
  · obtain ⟨m, rfl⟩ : ∃ m, k = m + 5 := ⟨k - 5, by omega⟩
    rfl
theorem inSet_hexU (k n : Nat) (hn : n < 16) : Web.inSet k (Web.hexU n) = false := by
  have key : ∀ k : Nat, k < 5 → ∀ n : Nat, n < 16 → Web.inSet k (Web.hexU n) = false := by decide +kernel
  by_cases h : k < 5
  · exact key k h n hn
  · obtain ⟨m, rfl⟩ : ∃ m, k = m + 5 := ⟨k - 5, by omega⟩
    rfl
theorem enc_clean (k : Nat) (l : List UInt8) : ∀ c ∈ Web.enc k l, Web.inSet k c = false := by
  intro c hc
  unfold Web.enc at hc
  obtain ⟨b, _, hb⟩ := List.mem_flatMap.1 hc
  unfold Web.encB at hb
  split at hb
  · simp only [List.mem_cons, List.not_mem_nil, or_false] at hb
    rcases hb with rfl | rfl | rfl
    · exact inSet_pct k
    · exact inSet_hexU k _ (by have := b.toNat_lt; omega)
    · exact inSet_hexU k _ (by omega)
  · rename_i h
    rw [List.mem_singleton] at hb
    subst hb
    exact Bool.eq_false_iff.2 h
theorem enc_cons (k : Nat) (c : UInt8) (t : List UInt8) : Web.enc k (c :: t) = Web.encB k c ++ Web.enc k t := by simp [Web.enc]
theorem enc_same (k : Nat) : ∀ (l : List UInt8), (∀ c ∈ l, Web.inSet k c = false) → Web.enc k l = l
  | [], _ => rfl
  | c :: t, h => by
    rw [enc_cons, enc_same k t (fun x hx => h x (by simp [hx]))]
    unfold Web.encB
    rw [h c (by simp)]
    rfl
def vis (c : UInt8) : Prop := 33 ≤ c.toNat ∧ c.toNat ≤ 126
theorem inSet_vis (k : Nat) (h1 : 1 ≤ k) (h4 : k ≤ 4) (c : UInt8) (h : Web.inSet k c = false) : vis c := by
  have key : ∀ k : Nat, k < 5 → ∀ n : Nat, n < 256 → 1 ≤ k → Web.inSet k (UInt8.ofNat n) = false → 33 ≤ (UInt8.ofNat n).toNat ∧ (UInt8.ofNat n).toNat ≤ 126 := by decide +kernel
  exact byte_all (P := fun c => Web.inSet k c = false → vis c) (fun n hn => key k (by omega) n hn h1) c h
theorem inSet4 (c : UInt8) (h : Web.inSet 4 c = false) : Web.ends c = false ∧ c ≠ 58 ∧ c ≠ 64 := by
  have key : ∀ n : Nat, n < 256 → Web.inSet 4 (UInt8.ofNat n) = false → Web.ends (UInt8.ofNat n) = false ∧ UInt8.ofNat n ≠ 58 ∧ UInt8.ofNat n ≠ 64 := by decide +kernel
  exact byte_all (P := fun c => Web.inSet 4 c = false → Web.ends c = false ∧ c ≠ 58 ∧ c ≠ 64) key c h
theorem inSet3 (c : UInt8) (h : Web.inSet 3 c = false) : (c == 63 || c == 35) = false := by
  have key : ∀ n : Nat, n < 256 → Web.inSet 3 (UInt8.ofNat n) = false → (UInt8.ofNat n == 63 || UInt8.ofNat n == 35) = false := by decide +kernel
  exact byte_all (P := fun c => Web.inSet 3 c = false → (c == 63 || c == 35) = false) key c h
theorem inSet2 (c : UInt8) (h : Web.inSet 2 c = false) : (c == 35) = false := by
  have key : ∀ n : Nat, n < 256 → Web.inSet 2 (UInt8.ofNat n) = false → (UInt8.ofNat n == 35) = false := by decide +kernel
  exact byte_all (P := fun c => Web.inSet 2 c = false → (c == 35) = false) key c h
theorem forbidden_no (c : UInt8) (h : Web.forbidden c = false) : vis c ∧ Web.ends c = false ∧ c ≠ 58 ∧ c ≠ 64 ∧ c ≠ 37 := by
  have key : ∀ n : Nat, n < 256 → Web.forbidden (UInt8.ofNat n) = false → (33 ≤ (UInt8.ofNat n).toNat ∧ (UInt8.ofNat n).toNat ≤ 126) ∧ Web.ends (UInt8.ofNat n) = false ∧ UInt8.ofNat n ≠ 58 ∧ UInt8.ofNat n ≠ 64 ∧ UInt8.ofNat n ≠ 37 := by decide +kernel
  exact byte_all (P := fun c => Web.forbidden c = false → vis c ∧ Web.ends c = false ∧ c ≠ 58 ∧ c ≠ 64 ∧ c ≠ 37) key c h
theorem dropWhile_none (p : UInt8 → Bool) : ∀ l : List UInt8, (∀ c ∈ l, p c = false) → l.dropWhile p = l
  | [], _ => rfl
  | c :: t, h => by rw [List.dropWhile_cons_of_neg (by rw [h c (by simp)]; decide)]
theorem trim_vis (l : List UInt8) (h : ∀ c ∈ l, Web.blank c = false) : Web.trim l = l := by
  unfold Web.trim
  rw [dropWhile_none _ l h, dropWhile_none _ l.reverse (fun c hc => h c (by simpa using hc)), List.reverse_reverse]
theorem clean_vis (l : List UInt8) (h : ∀ c ∈ l, vis c) : Web.clean l = l := by
  unfold Web.clean
  have hb : ∀ c ∈ l, Web.blank c = false := fun c hc => by unfold Web.blank; rw [decide_eq_false_iff_not]; have := (h c hc).1; omega
  rw [trim_vis l hb, List.filter_eq_self.2]
  intro c hc
  have h1 := (h c hc).1
  unfold Web.tabbed
  simp only [Bool.not_eq_true', Bool.or_eq_false_iff, beq_eq_false_iff_ne]
  refine ⟨⟨?_, ?_⟩, ?_⟩ <;> (rintro rfl; revert h1; decide)
def nt (c : UInt8) : Bool := !Web.tabbed c
theorem tabbed_blank (c : UInt8) (h : nt c = false) : Web.blank c = true := by
  have key : ∀ n : Nat, n < 256 → nt (UInt8.ofNat n) = false → Web.blank (UInt8.ofNat n) = true := by decide +kernel
  exact byte_all (P := fun c => nt c = false → Web.blank c = true) key c h
theorem dropWhile_nt : ∀ l : List UInt8, (l.filter nt).dropWhile Web.blank = (l.dropWhile Web.blank).filter nt
  | [] => rfl
  | c :: t => by
    by_cases h : nt c = true
    · rw [List.filter_cons_of_pos h]
      by_cases hb : Web.blank c = true
      · rw [List.dropWhile_cons_of_pos hb, List.dropWhile_cons_of_pos hb, dropWhile_nt t]
      · rw [List.dropWhile_cons_of_neg hb, List.dropWhile_cons_of_neg hb, List.filter_cons_of_pos h]
    · rw [List.filter_cons_of_neg h, List.dropWhile_cons_of_pos (tabbed_blank c (Bool.eq_false_iff.2 h)), dropWhile_nt t]
theorem clean_filter (l : List UInt8) : Web.clean l = Web.trim (l.filter nt) := by
  unfold Web.trim
  rw [dropWhile_nt, ← List.filter_reverse, dropWhile_nt, ← List.filter_reverse]
  rfl
theorem dropWhile_nil (p : UInt8 → Bool) (l : List UInt8) (h : ∀ c ∈ l, p c = true) : l.dropWhile p = [] := by
  have := List.dropWhile_append_of_pos (l₂ := []) h
  simpa using this
theorem trim_blanks (a l b : List UInt8) (ha : ∀ c ∈ a, Web.blank c = true) (hb : ∀ c ∈ b, Web.blank c = true) : Web.trim (a ++ l ++ b) = Web.trim l := by
  unfold Web.trim
  rw [List.append_assoc, List.dropWhile_append_of_pos ha, List.dropWhile_append]
  split
  · rename_i h
    rw [List.isEmpty_iff.1 h, dropWhile_nil _ b hb]
  · rw [List.reverse_append, List.dropWhile_append_of_pos (fun c hc => hb c (by simpa using hc))]
theorem clean_tab (a b : List UInt8) (c : UInt8) (h : Web.tabbed c = true) : Web.clean (a ++ [c] ++ b) = Web.clean (a ++ b) := by
  have hc : nt c = false := by unfold nt; rw [h]; rfl
  rw [clean_filter, clean_filter, List.filter_append, List.filter_append, List.filter_cons_of_neg (by rw [hc]; decide), List.filter_append]
  simp
theorem clean_around (a l b : List UInt8) (ha : ∀ c ∈ a, Web.blank c = true) (hb : ∀ c ∈ b, Web.blank c = true) : Web.clean (a ++ l ++ b) = Web.clean l := by
  unfold Web.clean
  rw [trim_blanks a l b ha hb]
theorem decodeN_more (n m b0 b1 b2 b3 c1 c2 c3 : Nat) (h1 : 1 < n → c1 = b1) (h2 : 2 < n → c2 = b2) (h3 : 3 < n → c3 = b3) (hne : Lib.decodeN n b0 b1 b2 b3 ≠ (65533, 1)) : Lib.decodeN (n + m) b0 c1 c2 c3 = Lib.decodeN n b0 b1 b2 b3 := by
  unfold Lib.decodeN at hne ⊢
  by_cases e0 : b0 < 128
  · rw [if_pos e0, if_pos e0]
  rw [if_neg e0] at hne ⊢
  rw [if_neg e0]
  by_cases e6 : b0 / 32 = 6 ∧ (1 < n ∧ b1 / 64 = 2)
  · obtain ⟨k1, k2, k3⟩ := e6
    obtain rfl := h1 k2
    exact (if_pos ⟨k1, by omega, k3⟩).trans (if_pos ⟨k1, k2, k3⟩).symm
  rw [if_neg e6] at hne ⊢
  by_cases e14 : b0 / 16 = 14 ∧ (1 < n ∧ b1 / 64 = 2) ∧ (2 < n ∧ b2 / 64 = 2)
  · obtain ⟨k1, ⟨k2, k3⟩, k4, k5⟩ := e14
    obtain rfl := h1 k2
    obtain rfl := h2 k4
    exact (if_neg (by omega)).trans ((if_pos ⟨k1, ⟨by omega, k3⟩, by omega, k5⟩).trans (if_pos ⟨k1, ⟨k2, k3⟩, k4, k5⟩).symm)
  rw [if_neg e14] at hne ⊢
  by_cases e30 : b0 / 8 = 30 ∧ (1 < n ∧ b1 / 64 = 2) ∧ (2 < n ∧ b2 / 64 = 2) ∧ (3 < n ∧ b3 / 64 = 2)
  · obtain ⟨k1, ⟨k2, k3⟩, ⟨k4, k5⟩, k6, k7⟩ := e30
    obtain rfl := h1 k2
    obtain rfl := h2 k4
    obtain rfl := h3 k6
    exact (if_neg (by omega)).trans ((if_neg (by omega)).trans ((if_pos ⟨k1, ⟨by omega, k3⟩, ⟨by omega, k5⟩, by omega, k7⟩).trans (if_pos ⟨k1, ⟨k2, k3⟩, ⟨k4, k5⟩, k6, k7⟩).symm))
  · rw [if_neg e30] at hne
    exact absurd rfl hne
theorem getD_app (a b : List UInt8) (i : Nat) (h : i < a.length) : (a ++ b).getD i 0 = a.getD i 0 := by
  rw [List.getD_eq_getElem?_getD, List.getD_eq_getElem?_getD, List.getElem?_append_left h]
theorem decodeL_app (a b : List UInt8) (ha : a ≠ []) (h : ¬ ((Lib.decodeL a).1 = 65533 ∧ (Lib.decodeL a).2 = 1)) : Lib.decodeL (a ++ b) = Lib.decodeL a := by
  have hl := List.length_pos_iff.2 ha
  rw [Lib.decodeL_N] at h
  rw [Lib.decodeL_N, Lib.decodeL_N a, List.length_append, getD_app a b 0 hl]
  refine decodeN_more _ _ _ _ _ _ _ _ _ (fun k => by rw [getD_app a b 1 k]) (fun k => by rw [getD_app a b 2 k]) (fun k => by rw [getD_app a b 3 k]) (fun e => h ?_)
  rw [e]
  exact ⟨rfl, rfl⟩
theorem validD_app : ∀ (n : Nat) (a b : List UInt8), a.length ≤ n → Lib.validD a = true → Lib.validD (a ++ b) = Lib.validD b
  | 0, a, b, h, _ => by
    obtain rfl : a = [] := List.length_eq_zero_iff.1 (by omega)
    rfl
  | n + 1, a, b, h, hv => by
    by_cases ha : a = []
    · subst ha; rfl
    · rw [Lib.validD_step a ha] at hv
      split at hv
      · cases hv
      · rename_i hne
        have hw := Lib.decodeL_width a
        have hle := Lib.decodeL_le a ha
        rw [Lib.validD_step (a ++ b) (by simp [ha]), decodeL_app a b ha hne, if_neg hne, List.drop_append_of_le_length hle]
        exact validD_app n (a.drop (Lib.decodeL a).2) b (by rw [List.length_drop]; omega) hv
theorem decodeN_err (n m b0 b1 b2 b3 c1 c2 c3 : Nat) (h1 : 1 < n → c1 = b1) (h2 : 2 < n → c2 = b2) (h3 : 3 < n → c3 = b3) (g1 : ¬ 1 < n → c1 < 128) (g2 : ¬ 2 < n → c2 < 128) (g3 : ¬ 3 < n → c3 < 128) (he : Lib.decodeN n b0 b1 b2 b3 = (65533, 1)) : Lib.decodeN (n + m) b0 c1 c2 c3 = (65533, 1) := by
  unfold Lib.decodeN at he ⊢
  by_cases e0 : b0 < 128
  · rw [if_pos e0] at he
    have := congrArg Prod.fst he
    simp only [] at this
    omega
  rw [if_neg e0] at he ⊢
  by_cases e6 : b0 / 32 = 6 ∧ (1 < n ∧ b1 / 64 = 2)
  · obtain ⟨k1, k2, k3⟩ := e6
    obtain rfl := h1 k2
    rw [if_pos ⟨k1, k2, k3⟩] at he
    rw [if_pos ⟨k1, by omega, k3⟩]
    exact he
  rw [if_neg e6] at he
  rw [if_neg (by
    rintro ⟨k1, k2, k3⟩
    by_cases k : 1 < n
    · rw [h1 k] at k3; exact e6 ⟨k1, k, k3⟩
    · have := g1 k; omega)]
  by_cases e14 : b0 / 16 = 14 ∧ (1 < n ∧ b1 / 64 = 2) ∧ (2 < n ∧ b2 / 64 = 2)
  · obtain ⟨k1, ⟨k2, k3⟩, k4, k5⟩ := e14
    obtain rfl := h1 k2
    obtain rfl := h2 k4
    rw [if_pos ⟨k1, ⟨k2, k3⟩, k4, k5⟩] at he
    rw [if_pos ⟨k1, ⟨by omega, k3⟩, by omega, k5⟩]
    exact he
  rw [if_neg e14] at he
  rw [if_neg (by
    rintro ⟨k1, ⟨k2, k3⟩, k4, k5⟩
    by_cases k : 2 < n
    · rw [h1 (by omega)] at k3; rw [h2 k] at k5; exact e14 ⟨k1, ⟨by omega, k3⟩, k, k5⟩
    · have := g2 k; omega)]
  by_cases e30 : b0 / 8 = 30 ∧ (1 < n ∧ b1 / 64 = 2) ∧ (2 < n ∧ b2 / 64 = 2) ∧ (3 < n ∧ b3 / 64 = 2)
  · obtain ⟨k1, ⟨k2, k3⟩, ⟨k4, k5⟩, k6, k7⟩ := e30
    obtain rfl := h1 k2
    obtain rfl := h2 k4
    obtain rfl := h3 k6
    rw [if_pos ⟨k1, ⟨k2, k3⟩, ⟨k4, k5⟩, k6, k7⟩] at he
    rw [if_pos ⟨k1, ⟨by omega, k3⟩, ⟨by omega, k5⟩, by omega, k7⟩]
    exact he
  · rw [if_neg (by
      rintro ⟨k1, ⟨k2, k3⟩, ⟨k4, k5⟩, k6, k7⟩
      by_cases k : 3 < n
      · rw [h1 (by omega)] at k3; rw [h2 (by omega)] at k5; rw [h3 k] at k7; exact e30 ⟨k1, ⟨by omega, k3⟩, ⟨by omega, k5⟩, k, k7⟩
      · have := g3 k; omega)]
theorem getD_small (a b : List UInt8) (i : Nat) (h : ¬ i < a.length) (hb : ∀ c ∈ b, c.toNat < 128) : ((a ++ b).getD i 0).toNat < 128 := by
  rw [List.getD_eq_getElem?_getD, List.getElem?_append_right (by omega)]
  cases hx : b[i - a.length]? with
  | none => decide
  | some c => exact hb c (List.mem_of_getElem? hx)
theorem validD_tail : ∀ (n : Nat) (a b : List UInt8), a.length ≤ n → (∀ c ∈ b, c.toNat < 128) → Lib.validD (a ++ b) = Lib.validD a
  | 0, a, b, h, hb => by
    obtain rfl : a = [] := List.length_eq_zero_iff.1 (by omega)
    rw [List.nil_append, Lib.validD_ascii b.length b (fun c hc => hb c (List.mem_of_mem_take hc)), List.drop_length]
  | n + 1, a, b, h, hb => by
    by_cases ha : a = []
    · subst ha
      rw [List.nil_append, Lib.validD_ascii b.length b (fun c hc => hb c (List.mem_of_mem_take hc)), List.drop_length]
    · have hl := List.length_pos_iff.2 ha
      rw [Lib.validD_step a ha, Lib.validD_step (a ++ b) (by simp [ha])]
      by_cases hne : (Lib.decodeL a).1 = 65533 ∧ (Lib.decodeL a).2 = 1
      · rw [if_pos hne]
        have he : Lib.decodeL (a ++ b) = (65533, 1) := by
          have h0 : Lib.decodeL a = (65533, 1) := Prod.ext hne.1 hne.2
          rw [Lib.decodeL_N] at h0
          rw [Lib.decodeL_N, List.length_append, getD_app a b 0 hl]
          exact decodeN_err _ _ _ _ _ _ _ _ _ (fun k => by rw [getD_app a b 1 k]) (fun k => by rw [getD_app a b 2 k]) (fun k => by rw [getD_app a b 3 k]) (fun k => getD_small a b 1 k hb) (fun k => getD_small a b 2 k hb) (fun k => getD_small a b 3 k hb) h0
        rw [he, if_pos ⟨rfl, rfl⟩]
      · have hw := Lib.decodeL_width a
        have hle := Lib.decodeL_le a ha
        rw [if_neg hne, decodeL_app a b ha hne, if_neg hne, List.drop_append_of_le_length hle]
        exact validD_tail n (a.drop (Lib.decodeL a).2) b (by rw [List.length_drop]; omega) hb
theorem validD_put (a b : List UInt8) (c : UInt8) (hc : c.toNat < 128) (ha : Lib.validD a = true) : Lib.validD (a ++ [c] ++ b) = Lib.validD (a ++ b) := by
  rw [List.append_assoc, validD_app a.length a _ (Nat.le_refl _) ha, validD_app a.length a _ (Nat.le_refl _) ha]
  exact Lib.validD_cons c b hc
theorem validD_vis (l : List UInt8) (h : ∀ c ∈ l, vis c) : Lib.validD l = true := by
  rw [Lib.validD_ascii l.length l (fun b hb => by have := (h b (List.mem_of_mem_take hb)).2; omega), List.drop_length]
  rfl
end Go.Proofs.YtcmcopieagpppaaGreatDoor.P
namespace Go.Proofs.YtcmcopieagpppaaGreatDoor.P
open Go.RowKit Go.Proofs.YtcmcopieagpppaaGreatDoorW.PrintWords Go.Proofs.YtcmcopieagpppaaGreatDoorW.PrintLast Go.Proofs.YtcmcopieagpppaaGreatDoorW.PrintMore
set_option linter.unusedVariables false
set_option linter.unusedSimpArgs false
def cnt (l : List UInt8) : Nat := l.countP Web.tabbed
theorem cnt_sum : ∀ l : List UInt8, cnt l = l.count 13 + l.count 10 + l.count 9
  | [] => rfl
  | c :: t => by
    have ih := cnt_sum t
    unfold cnt at ih ⊢
    rw [List.countP_cons, List.count_cons, List.count_cons, List.count_cons, ih]
    by_cases h1 : c = 13
    · subst h1; simp [Web.tabbed]; omega
    by_cases h2 : c = 10
    · subst h2; simp [Web.tabbed]; omega
    by_cases h3 : c = 9
    · subst h3; simp [Web.tabbed]; omega
    simp [Web.tabbed, h1, h2, h3]
theorem cnt_le (l : List UInt8) : cnt l ≤ l.length := List.countP_le_length
theorem filter_len (l : List UInt8) : (l.filter nt).length + cnt l = l.length := by
  unfold cnt nt
  induction l with
  | nil => rfl
  | cons c t ih =>
    rw [List.countP_cons, List.length_cons]
    by_cases h : Web.tabbed c = true
    · rw [List.filter_cons_of_neg (by rw [h]; decide), if_pos h]; omega
    · rw [List.filter_cons_of_pos (by rw [Bool.eq_false_iff.2 h]; rfl), if_neg h, List.length_cons]; omega
theorem filter_all (l : List UInt8) (h : cnt l = 0) : l.filter nt = l := by
  rw [List.filter_eq_self]
  intro c hc
  unfold cnt at h
  have := (List.countP_eq_zero.1 h) c hc
  unfold nt
  simpa using this
theorem take_get {s : ByteArray} {i : Nat} (h : i < s.size) : (bs s).take (i + 1) = (bs s).take i ++ [s[i]] := by
  have hl : i < (bs s).length := by rw [bs_len]; exact h
  rw [List.take_add_one, List.getElem?_eq_getElem hl]; rfl
theorem cnt_snoc (l : List UInt8) (c : UInt8) : cnt (l ++ [c]) = cnt l + if Web.tabbed c = true then 1 else 0 := by
  unfold cnt
  rw [List.countP_append, List.countP_cons, List.countP_nil]
  omega
theorem filter_snoc (l : List UInt8) (c : UInt8) : (l ++ [c]).filter nt = l.filter nt ++ (if Web.tabbed c = true then [] else [c]) := by
  rw [List.filter_append]
  congr 1
  unfold nt
  by_cases h : Web.tabbed c = true
  · rw [if_pos h, List.filter_cons_of_neg (by rw [h]; decide)]; rfl
  · rw [if_neg h, List.filter_cons_of_pos (by rw [Bool.eq_false_iff.2 h]; rfl)]; rfl
theorem filter_take_le (l : List UInt8) (i : Nat) : ((l.take i).filter nt).length ≤ (l.filter nt).length := by
  conv => rhs; rw [← List.take_append_drop i l, List.filter_append, List.length_append]
  omega
def RplAt (w : World) (B : Nat) : Prop := ∀ c : UInt8, (¬ Web.tabbed c = true → w.cell? ⟨B, c.toNat, none⟩ = some (.slice none 0 0)) ∧ (Web.tabbed c = true → ∃ A cp, w.cell? ⟨B, c.toNat, none⟩ = some (.slice (some A) 0 cp))
theorem RplAt.below {w w1 : World} {B : Nat} (h : RplAt w B) (hB : B < w.heap.size) (hb : Below w.heap.size w w1) : RplAt w1 B := by
  intro c
  have e := hb.cell (p := ⟨B, c.toNat, none⟩) hB
  rw [e]
  exact h c
theorem tabbed_mem (c : UInt8) : Web.tabbed c = true ↔ c ∈ ([13, 10, 9] : List UInt8) := by
  unfold Web.tabbed
  simp only [Bool.or_eq_true, beq_iff_eq, List.mem_cons, List.not_mem_nil, or_false]
  constructor
  · rintro ((h | h) | h)
    · exact .inr (.inr h)
    · exact .inr (.inl h)
    · exact .inl h
  · rintro (h | h | h)
    · exact .inr h
    · exact .inl (.inr h)
    · exact .inl (.inl h)
theorem Bsr_open {w : World} {B base : Nat} (h : Bsr w B base [13, 10, 9]) : B < w.heap.size ∧ RplAt w B ∧ ∃ r c, w.cell? ⟨B, 256, none⟩ = some (.slice (some ⟨r, 0, none⟩) 3 c) ∧ r < w.heap.size ∧ 3 ≤ c ∧ w.cell? ⟨r, 0, none⟩ = some (.string ⟨#[13]⟩) ∧ w.cell? ⟨r, 1, none⟩ = some (.string ⟨#[10]⟩) ∧ w.cell? ⟨r, 2, none⟩ = some (.string ⟨#[9]⟩) := by
  obtain ⟨cs, v, hblk, hsz, hv, hR, hcs⟩ := h
  refine ⟨blk_lt hblk, fun c => ⟨fun hc => ?_, fun hc => ?_⟩, ?_⟩
  · rw [blk_cell hblk]; exact (hcs c).1 (fun h => hc ((tabbed_mem c).2 h))
  · rw [blk_cell hblk]; exact (hcs c).2 ((tabbed_mem c).1 hc)
  · obtain ⟨A, c, rfl⟩ := Kd.R_slice hR
    have hc := (Kd.R_reads' hR).2.1
    obtain ⟨b, hb⟩ : ∃ b, A = some ⟨b, 0, none⟩ := by
      obtain ⟨_, inner, ho, _⟩ := hR
      rcases ho.2 with ⟨hv, _⟩ | ⟨g, cap', cur, hv, _⟩
      · injection hv with _ hv _
        cases hv
      · injection hv with ha _ _
        exact ⟨g, ha⟩
    subst hb
    have hC := (Kd.R_reads' hR).2.2
    have key : ∀ j : Nat, j < 3 → w.cell? ⟨b, j, none⟩ = some (.string ((([13, 10, 9] : List UInt8).map fun c => ba [c]).getD j ByteArray.empty)) := by
      intro j hj
      obtain ⟨ad, e0, hx⟩ := Kd.at_string hC (j : Int) (by omega) (by show (j : Int) < 3; omega)
      cases e0
      have e2 : (⟨b, 0, none⟩ : Addr).add ((j : Int)).toNat = ⟨b, j, none⟩ := by simp [Addr.add]; omega
      rw [e2] at hx
      rw [hx]
      unfold rdOf
      rw [Int.toNat_natCast]
    exact ⟨b, c, (blk_cell hblk 256).trans hv, Kd.C_lt hC (by decide) (by decide), hc, key 0 (by omega), key 1 (by omega), key 2 (by omega)⟩
def outN (l : List UInt8) : Nat → Nat
  | 0 => 0
  | 1 => l.count 13
  | 2 => l.count 13 + l.count 10
  | _ => l.count 13 + l.count 10 + l.count 9
def BufRow (l : List UInt8) (g j : Nat) (W : World) : Prop := ∀ m, m < l.length → ∃ x : Int, W.cell? ⟨g, m, none⟩ = some (.int .u8 x) ∧ W.frozen? ⟨g, m, none⟩ = false ∧ (m < j → x = ((l.getD m 0).toNat : Int))
theorem BufRow.start (l : List UInt8) (w : World) : BufRow l w.heap.size 0 (w.alloc (.cells (madeCells #[.int .u8 0] l.length) 5)) := by
  intro m hm
  have hb := heap_alloc_new w (.cells (madeCells #[.int .u8 0] l.length) 5)
  refine ⟨0, ?_, blk_frozen hb m, fun h => absurd h (by omega)⟩
  rw [blk_cell hb]
  have := toList_madeCells_one (.int .u8 0) l.length
  rw [← Array.getElem?_toList, this, List.getElem?_replicate, if_pos hm]
theorem BufRow.put {l : List UInt8} {g j : Nat} {W : World} (h : BufRow l g j W) (hj : j < l.length) (c : UInt8) (hc : l[j]? = some c) : BufRow l g (j + 1) (W.setCell ⟨g, j, none⟩ (.int .u8 (c.toNat : Int))) := by
  intro m hm
  obtain ⟨x, h1, h2, h3⟩ := h m hm
  by_cases e : m = j
  · subst e
    refine ⟨_, World.cell?_setCell_same _ _ _ h1, by rw [World.frozen?_setCell]; exact h2, fun _ => ?_⟩
    rw [List.getD_eq_getElem?_getD, hc]
    rfl
  · refine ⟨x, ?_, by rw [World.frozen?_setCell]; exact h2, fun hlt => h3 (by omega)⟩
    rw [World.cell?_setCell_other _ _ _ _ (by intro e'; injection e' with _ e'; exact e e'.symm), h1]
theorem BufRow.reads {l : List UInt8} {g : Nat} {W : World} (h : BufRow l g l.length W) (hm : l.length ≤ 9223372036854775807) : ReadsInt W .u8 (some ⟨g, 0, none⟩) l.length (l.map fun b => (b.toNat : Int)) := by
  refine ⟨by simp, hm, fun _ => ⟨_, rfl, fun j hj => ?_⟩⟩
  rw [add_plain]
  obtain ⟨x, h1, _, h3⟩ := h j hj
  rw [h1, h3 hj]
  simp [List.getD_eq_getElem?_getD, List.getElem?_eq_getElem hj]
theorem make_bytes (n : Nat) (hn : n ≤ 100000) : ∀ W : World, (Instr.makeSlice 46 (.int .i64 (n : Int)) (.int .i64 (n : Int))).run Tryz.prog W = .ok (.slice (some ⟨W.heap.size, 0, none⟩) n n) (W.alloc (.cells (madeCells #[.int .u8 0] n) 5)) := by
  intro W
  obtain ⟨i, hi, hz, hsz, hb⟩ := info_parts info5
  have := run_makeSlice (P := Tryz.prog) (w := W) 46 5 i _ Tryz.underlying46 hi hz .i64 .i64 n n (by omega) (by omega) (by rw [hsz]; omega) (by rw [hb]; omega) (by omega)
  rw [hsz, Nat.mul_one, Int.toNat_natCast] at this
  exact this
end Go.Proofs.YtcmcopieagpppaaGreatDoor.P
namespace Go.Proofs.YtcmcopieagpppaaGreatDoor.P
open Go.RowKit Go.Proofs.YtcmcopieagpppaaGreatDoorW.PrintWords Go.Proofs.YtcmcopieagpppaaGreatDoorW.PrintLast Go.Proofs.YtcmcopieagpppaaGreatDoorW.PrintMore
set_option linter.unusedVariables false
set_option linter.unusedSimpArgs false
theorem outN_le (l : List UInt8) (k : Nat) : outN l k ≤ l.length := by
  have h := cnt_sum l
  have h2 := cnt_le l
  unfold outN
  split <;> omega
theorem outN_3 (l : List UInt8) : outN l 3 = cnt l := by rw [cnt_sum]; rfl
set_option maxRecDepth 100000 in
set_option maxHeartbeats 4000000 in
theorem bsr_replace (s : ByteArray) (w : World) (B base : Nat) (h : Bsr w B base [13, 10, 9]) (hs : s.size ≤ 100000) :
    Calls Tryz.prog 251 #[.pointer (some ⟨B, 0, none⟩), .string s] w fun e w' => ∃ r : ByteArray, e = .returned (.string r) ∧ Hid (bs r = (bs s).filter nt) ∧ Below w.heap.size w w' := by
  have hneT : ∀ (W : World) (a : Addr) (n c : Nat), (binOp .neq 46 (.slice (some a) n c) (.slice none 0 0)).run Tryz.prog W = .ok (.bool true) W := fun W a n c => run_neq_slice_nil_any (P := Tryz.prog) W 46 5 (some a) n c 0 0 Tryz.underlying46
  have hneF : ∀ (W : World), (binOp .neq 46 (.slice none 0 0) (.slice none 0 0)).run Tryz.prog W = .ok (.bool false) W := fun W => run_neq_slice_nil_any (P := Tryz.prog) W 46 5 none 0 0 0 0 Tryz.underlying46
  obtain ⟨hB, hat, r, c, q256, hr, hc3, x0, x1, x2⟩ := Bsr_open h
  have HAT := Lib.hid hat
  have Q := Lib.hid q256
  have X0 := Lib.hid x0; have X1 := Lib.hid x1; have X2 := Lib.hid x2
  clear hat x0 x1 x2 h
  go_enter Tryz.func251, Tryz.ntmps251
  go_upto_if 26 with (fail)
  go_cut [5, 6] (fun v5 v6 wc => v5 = .int .i64 ((s.size : Int) - (cnt (bs s) : Int)) ∧ v6 = .bool (decide (0 < cnt (bs s))) ∧ Hid (Below w.heap.size w wc))
  case first =>
    by_cases c24 : 24 ≤ s.size
    · have c24' : decide ((24 : Int) ≤ (s.size : Int)) = true := decide_eq_true (by omega)
      rw [c24']
      clear c24'
      go_wp2_with fail
      clear q256 c24
      go_loopw [5, 6, 32] (fun v5 v6 v32 wr => ∃ (i : Int) (k : Nat), v32 = .int .i64 i ∧ ((i = 0 ∧ k = 0) ∨ (i = 1 ∧ k = 1) ∨ (i = 2 ∧ k = 2) ∨ (i = 3 ∧ k = 3)) ∧ v5 = .int .i64 ((s.size : Int) - (outN (bs s) k : Int)) ∧ v6 = .bool (decide (0 < outN (bs s) k)) ∧ Hid (Below w.heap.size w wr)) (fun _ _ v _ => (3 - intOf v).toNat)
      case atStart => exact ⟨0, 0, rfl, .inl ⟨rfl, rfl⟩, by simp [outN], by simp [outN], Lib.hid (Below.refl _ _)⟩
      case round =>
        obtain ⟨i, k, rfl, hk, rfl, rfl, HB⟩ := hrel
        obtain ⟨wx, rfl⟩ : ∃ wo : World, wo = wr := ⟨_, rfl⟩
        rcases hk with ⟨rfl, rfl⟩ | ⟨rfl, rfl⟩ | ⟨rfl, rfl⟩ | ⟨rfl, rfl⟩
        · have kx := (HB.out.cell (p := ⟨r, 0, none⟩) hr).trans X0.out
          have AT := HAT.out.below hB HB.out
          obtain ⟨A, cp, kb⟩ := (AT 13).2 (by decide)
          have kb : wx.cell? ⟨B, 13, none⟩ = some (.slice (some A) 0 cp) := kb
          have cc : Calls Tryz.prog 199 #[.string s, .string ⟨#[13]⟩] wx fun e w' => e = .returned (.int .i64 (((bs s).count 13 : Nat) : Int)) ∧ w' = wx := Tryz.strings_Count_one s 13 wx
          have CC := Lib.hid cc
          obtain ⟨n0, hn0⟩ : ∃ n, outN (bs s) 0 = n := ⟨_, rfl⟩
          obtain ⟨n, hn⟩ : ∃ n, (bs s).count 13 = n := ⟨_, rfl⟩
          have N1 : Hid (outN (bs s) 1 = n0 + n) := Lib.hid (by rw [← hn0, ← hn]; simp [outN])
          have hle : n0 + n ≤ s.size := by rw [← N1.out, ← bs_len]; exact outN_le _ _
          rw [hn] at CC
          rw [hn0]
          clear hn0 hn AT cc
          by_cases hz : n = 0
          · subst hz
            go_wp2_with (go_at_call 199; refine (CC.out).mono ?_; rintro e w' ⟨rfl, hw⟩; rw [hw])
            go_roundw
            case rel => exact ⟨1, 1, rfl, .inr (.inl ⟨rfl, rfl⟩), by rw [N1.out, Nat.add_zero], by rw [N1.out, Nat.add_zero], HB⟩
            case measure => decide
          · have hz' : ((n : Int) != 0) = true := by simpa using hz
            have b0 : ((⟨#[13]⟩ : ByteArray)[0]'(by decide)).toNat = 13 := rfl
            go_wp2_with (go_at_call 199; refine (CC.out).mono ?_; rintro e w' ⟨rfl, hw⟩; rw [hw])
            have e1 : IntKind.i64.wrap ((0 : Int) - 1) = -1 := by decide
            have e2 : IntKind.i64.wrap ((n : Int) * -1) = -(n : Int) := by rw [IntWalk.i64_in _ (by omega)]; omega
            have e3 : IntKind.i64.wrap ((s.size : Int) - (n0 : Int) + -(n : Int)) = (s.size : Int) - ((n0 + n : Nat) : Int) := by rw [IntWalk.i64_in _ (by omega)]; omega
            have hp : Hid (0 < n0 + n) := Lib.hid (by omega)
            clear hz
            go_quiet (fail)
            clear e1 e2 e3
            go_wp2_with fail
            go_roundw
            case rel => exact ⟨1, 1, rfl, .inr (.inl ⟨rfl, rfl⟩), by rw [N1.out, Int.natCast_add], by rw [N1.out, decide_eq_true hp.out], Lib.hid (pw_below_drewN HB.out _)⟩
            case measure => decide
        · have kx := (HB.out.cell (p := ⟨r, 1, none⟩) hr).trans X1.out
          have AT := HAT.out.below hB HB.out
          obtain ⟨A, cp, kb⟩ := (AT 10).2 (by decide)
          have kb : wx.cell? ⟨B, 10, none⟩ = some (.slice (some A) 0 cp) := kb
          have cc : Calls Tryz.prog 199 #[.string s, .string ⟨#[10]⟩] wx fun e w' => e = .returned (.int .i64 (((bs s).count 10 : Nat) : Int)) ∧ w' = wx := Tryz.strings_Count_one s 10 wx
          have CC := Lib.hid cc
          obtain ⟨n0, hn0⟩ : ∃ n, outN (bs s) 1 = n := ⟨_, rfl⟩
          obtain ⟨n, hn⟩ : ∃ n, (bs s).count 10 = n := ⟨_, rfl⟩
          have N1 : Hid (outN (bs s) 2 = n0 + n) := Lib.hid (by rw [← hn0, ← hn]; simp [outN])
          have hle : n0 + n ≤ s.size := by rw [← N1.out, ← bs_len]; exact outN_le _ _
          rw [hn] at CC
          rw [hn0]
          clear hn0 hn AT cc
          by_cases hz : n = 0
          · subst hz
            go_wp2_with (go_at_call 199; refine (CC.out).mono ?_; rintro e w' ⟨rfl, hw⟩; rw [hw])
            go_roundw
            case rel => exact ⟨2, 2, rfl, .inr (.inr (.inl ⟨rfl, rfl⟩)), by rw [N1.out, Nat.add_zero], by rw [N1.out, Nat.add_zero], HB⟩
            case measure => decide
          · have hz' : ((n : Int) != 0) = true := by simpa using hz
            have b0 : ((⟨#[10]⟩ : ByteArray)[0]'(by decide)).toNat = 10 := rfl
            go_wp2_with (go_at_call 199; refine (CC.out).mono ?_; rintro e w' ⟨rfl, hw⟩; rw [hw])
            have e1 : IntKind.i64.wrap ((0 : Int) - 1) = -1 := by decide
            have e2 : IntKind.i64.wrap ((n : Int) * -1) = -(n : Int) := by rw [IntWalk.i64_in _ (by omega)]; omega
            have e3 : IntKind.i64.wrap ((s.size : Int) - (n0 : Int) + -(n : Int)) = (s.size : Int) - ((n0 + n : Nat) : Int) := by rw [IntWalk.i64_in _ (by omega)]; omega
            have hp : Hid (0 < n0 + n) := Lib.hid (by omega)
            clear hz
            go_quiet (fail)
            clear e1 e2 e3
            go_wp2_with fail
            go_roundw
            case rel => exact ⟨2, 2, rfl, .inr (.inr (.inl ⟨rfl, rfl⟩)), by rw [N1.out, Int.natCast_add], by rw [N1.out, decide_eq_true hp.out], Lib.hid (pw_below_drewN HB.out _)⟩
            case measure => decide
        · have kx := (HB.out.cell (p := ⟨r, 2, none⟩) hr).trans X2.out
          have AT := HAT.out.below hB HB.out
          obtain ⟨A, cp, kb⟩ := (AT 9).2 (by decide)
          have kb : wx.cell? ⟨B, 9, none⟩ = some (.slice (some A) 0 cp) := kb
          have cc : Calls Tryz.prog 199 #[.string s, .string ⟨#[9]⟩] wx fun e w' => e = .returned (.int .i64 (((bs s).count 9 : Nat) : Int)) ∧ w' = wx := Tryz.strings_Count_one s 9 wx
          have CC := Lib.hid cc
          obtain ⟨n0, hn0⟩ : ∃ n, outN (bs s) 2 = n := ⟨_, rfl⟩
          obtain ⟨n, hn⟩ : ∃ n, (bs s).count 9 = n := ⟨_, rfl⟩
          have N1 : Hid (outN (bs s) 3 = n0 + n) := Lib.hid (by rw [← hn0, ← hn]; simp [outN])
          have hle : n0 + n ≤ s.size := by rw [← N1.out, ← bs_len]; exact outN_le _ _
          rw [hn] at CC
          rw [hn0]
          clear hn0 hn AT cc
          by_cases hz : n = 0
          · subst hz
            go_wp2_with (go_at_call 199; refine (CC.out).mono ?_; rintro e w' ⟨rfl, hw⟩; rw [hw])
            go_roundw
            case rel => exact ⟨3, 3, rfl, .inr (.inr (.inr ⟨rfl, rfl⟩)), by rw [N1.out, Nat.add_zero], by rw [N1.out, Nat.add_zero], HB⟩
            case measure => decide
          · have hz' : ((n : Int) != 0) = true := by simpa using hz
            have b0 : ((⟨#[9]⟩ : ByteArray)[0]'(by decide)).toNat = 9 := rfl
            go_wp2_with (go_at_call 199; refine (CC.out).mono ?_; rintro e w' ⟨rfl, hw⟩; rw [hw])
            have e1 : IntKind.i64.wrap ((0 : Int) - 1) = -1 := by decide
            have e2 : IntKind.i64.wrap ((n : Int) * -1) = -(n : Int) := by rw [IntWalk.i64_in _ (by omega)]; omega
            have e3 : IntKind.i64.wrap ((s.size : Int) - (n0 : Int) + -(n : Int)) = (s.size : Int) - ((n0 + n : Nat) : Int) := by rw [IntWalk.i64_in _ (by omega)]; omega
            have hp : Hid (0 < n0 + n) := Lib.hid (by omega)
            clear hz
            go_quiet (fail)
            clear e1 e2 e3
            go_wp2_with fail
            go_roundw
            case rel => exact ⟨3, 3, rfl, .inr (.inr (.inr ⟨rfl, rfl⟩)), by rw [N1.out, Int.natCast_add], by rw [N1.out, decide_eq_true hp.out], Lib.hid (pw_below_drewN HB.out _)⟩
            case measure => decide
        · go_wp2_with fail
          go_meet
          case rel => exact ⟨by rw [outN_3], by rw [outN_3], HB⟩
    · have c24' : decide ((24 : Int) ≤ (s.size : Int)) = false := decide_eq_false (by omega)
      rw [c24']
      clear c24'
      go_wp2_with fail
      clear q256
      go_loop [5, 6, 10] (fun v5 v6 v10 => ∃ i : Nat, i ≤ s.size ∧ v10 = .int .i64 (i : Int) ∧ v5 = .int .i64 ((s.size : Int) - (cnt ((bs s).take i) : Int)) ∧ v6 = .bool (decide (0 < cnt ((bs s).take i)))) (fun _ _ v => s.size - (intOf v).toNat)
      case atStart => exact ⟨0, by omega, rfl, by simp [cnt], by simp [cnt]⟩
      case round =>
        obtain ⟨i, hi, rfl, rfl, rfl⟩ := hrel
        by_cases hlt : i < s.size
        · have hs1 := cnt_snoc ((bs s).take i) s[i]
          rw [← take_get hlt] at hs1
          have hle := cnt_le ((bs s).take i)
          rw [List.length_take, bs_len] at hle
          obtain ⟨n0, hn0⟩ : ∃ n, cnt ((bs s).take i) = n := ⟨_, rfl⟩
          rw [hn0] at hs1 hle ⊢
          have N1 := Lib.hid hs1
          have hlei : n0 ≤ i := by omega
          have hx : (s[i].toNat : Int) < 256 := by have := s[i].toNat_lt; omega
          have h1 := (HAT.out s[i]).1
          have h2 := (HAT.out s[i]).2
          clear hs1 hn0 hle
          by_cases hc : Web.tabbed s[i] = true
          · obtain ⟨A, cp, kb⟩ := h2 hc
            have HC := Lib.hid hc
            clear h1 h2 hc
            go_wp2_with fail
            go_round
            case rel => exact ⟨i + 1, by omega, by go_num, by rw [N1.out, if_pos HC.out, Int.natCast_add]; congr 1; omega, by rw [N1.out, if_pos HC.out, decide_eq_true (by omega)]⟩
            case measure => simp [intOf]; omega
          · have kb := h1 hc
            have HC := Lib.hid hc
            clear h1 h2 hc
            go_wp2_with fail
            go_round
            case rel => exact ⟨i + 1, by omega, by go_num, by rw [N1.out, if_neg HC.out, Nat.add_zero], by rw [N1.out, if_neg HC.out, Nat.add_zero]⟩
            case measure => simp [intOf]; omega
        · have he : i = s.size := by omega
          subst he
          have ht : (bs s).take s.size = bs s := by rw [← bs_len, List.take_length]
          rw [ht]
          clear ht
          go_wp2_with fail
          go_meet
          case rel => exact ⟨rfl, rfl, Lib.hid (Below.refl _ _)⟩
  case rest =>
    obtain ⟨rfl, rfl, HB⟩ := hcut
    clear q256
    by_cases z : cnt (bs s) = 0
    · have z' : decide (0 < cnt (bs s)) = false := decide_eq_false (by omega)
      rw [z']
      have R := Lib.hid (filter_all (bs s) z)
      clear z z'
      go_wp2_with fail
      go_ret
      exact ⟨s, rfl, Lib.hid R.out.symm, HB.out⟩
    · have z' : decide (0 < cnt (bs s)) = true := decide_eq_true (by omega)
      rw [z']
      have hfl := filter_len (bs s)
      rw [bs_len] at hfl
      obtain ⟨l, hl⟩ : ∃ l, (bs s).filter nt = l := ⟨_, rfl⟩
      rw [hl] at hfl
      have e : ((s.size : Int) - (cnt (bs s) : Int)) = ((l.length : Nat) : Int) := by omega
      rw [e]
      have hN : l.length ≤ 100000 := by omega
      have HL := Lib.hid hl
      clear z z' hfl e hl
      have hmk := make_bytes l.length hN
      have hle : ∀ i, (((bs s).take i).filter nt).length ≤ l.length := fun i => by rw [← HL.out]; exact filter_take_le _ _
      have HLE := Lib.hid hle
      clear hle
      go_wp2_with fail
      clear hmk
      have B1 := Lib.hid (below_alloc HB.out (.cells (madeCells #[.int .u8 0] l.length) 5))
      have R1 := Lib.hid (BufRow.start l wc)
      have hg : w.heap.size ≤ wc.heap.size := HB.out.size
      generalize wc.alloc (.cells (madeCells #[.int .u8 0] l.length) 5) = w1 at B1 R1 ⊢
      generalize wc.heap.size = g at R1 hg ⊢
      go_loopw [13, 14] (fun v13 v14 wr => ∃ i : Nat, i ≤ s.size ∧ v14 = .int .i64 (i : Int) ∧ v13 = .int .i64 (((((bs s).take i).filter nt).length : Nat) : Int) ∧ Hid (BufRow l g (((bs s).take i).filter nt).length wr) ∧ Hid (Below w.heap.size w wr)) (fun _ v _ => s.size - (intOf v).toNat)
      case atStart => exact ⟨0, by omega, rfl, rfl, R1, B1⟩
      case round =>
        obtain ⟨i, hi, rfl, rfl, R2, B2⟩ := hrel
        obtain ⟨wx, rfl⟩ : ∃ wo : World, wo = wr := ⟨_, rfl⟩
        by_cases hlt : i < s.size
        · have hs1 := filter_snoc ((bs s).take i) s[i]
          rw [← take_get hlt] at hs1
          have hj1 := HLE.out (i + 1)
          have hj0 := HLE.out i
          have PX := Lib.hid (show l = ((bs s).take (i + 1)).filter nt ++ ((bs s).drop (i + 1)).filter nt by rw [← List.filter_append, List.take_append_drop, HL.out])
          obtain ⟨j, hj⟩ : ∃ n, (((bs s).take i).filter nt).length = n := ⟨_, rfl⟩
          rw [hj] at R2 hj0 ⊢
          have hx : (s[i].toNat : Int) < 256 := by have := s[i].toNat_lt; omega
          have HX := HAT.out.below hB B2.out
          have h1 := (HX s[i]).1
          have h2 := (HX s[i]).2
          clear HX
          by_cases hc : Web.tabbed s[i] = true
          · rw [if_pos hc, List.append_nil] at hs1
            obtain ⟨A, cp, kb⟩ := h2 hc
            have HE := Lib.hid (show (((bs s).take (i + 1)).filter nt).length = j by rw [hs1, hj])
            have hce : ∀ d dLen dCap W, (Builtin.copy_ #[46, 46] 3 #[.slice d dLen dCap, .slice (some A) 0 cp]).run Tryz.prog W = .ok (goInt 0) W := fun d dLen dCap W => run_copy_none W 46 46 3 5 d (some A) dLen dCap 0 cp Tryz.underlying46 (by kernel_rfl) (by simp)
            clear h1 h2 hc hs1 hj hj1
            have e1 : IntKind.i64.wrap ((j : Int) + 0) = (j : Int) := by rw [IntWalk.i64_in _ (by omega)]; omega
            go_wp2_with fail
            go_quiet (fail)
            go_wp2_with fail
            go_roundw
            case rel => exact ⟨i + 1, by omega, by go_num, by rw [HE.out], by rw [HE.out]; exact R2, Lib.hid (pw_below_drewN B2.out _)⟩
            case measure => simp [intOf]; omega
          · rw [if_neg hc] at hs1
            have kb := h1 hc
            have HE := Lib.hid (show (((bs s).take (i + 1)).filter nt).length = j + 1 by rw [hs1, List.length_append, hj]; rfl)
            have hjl : j < l.length := by have := HE.out; omega
            have GE := Lib.hid (show l[j]? = some s[i] by
              rw [PX.out, hs1, List.append_assoc, ← hj, List.getElem?_append_right (Nat.le_refl _), Nat.sub_self]; rfl)
            obtain ⟨x, kc, kf, _⟩ := R2.out j hjl
            have R3 := Lib.hid (R2.out.put hjl s[i] GE.out)
            have B3 := Lib.hid (B2.out.setCell (p := ⟨g, j, none⟩) hg (.int .u8 (s[i].toNat : Int)))
            clear h1 h2 hc hs1 hj hj1
            go_wp2_with fail
            go_roundw
            case rel => exact ⟨i + 1, by omega, by go_num, by rw [HE.out]; go_num, by rw [HE.out]; exact R3, B3⟩
            case measure => simp [intOf]; omega
        · have he : i = s.size := by omega
          subst he
          have ht : ((bs s).take s.size).filter nt = l := by rw [← bs_len, List.take_length, HL.out]
          rw [ht] at R2 ⊢
          have hcv := string_of_reads (P := Tryz.prog) (src := 46) (dst := 9) (c := l.length) Tryz.underlying46 Tryz.underlying5 Tryz.underlying9 (R2.out.reads (by omega))
          rw [strOfNums_bytes] at hcv
          clear ht
          go_wp2_with fail
          go_ret
          exact ⟨_, rfl, Lib.hid HL.out.symm, B2.out⟩
end Go.Proofs.YtcmcopieagpppaaGreatDoor.P
namespace Go.Proofs.YtcmcopieagpppaaGreatDoor.P
open Go.RowKit Go.Proofs.YtcmcopieagpppaaGreatDoorW.PrintWords Go.Proofs.YtcmcopieagpppaaGreatDoorW.PrintLast Go.Proofs.YtcmcopieagpppaaGreatDoorW.PrintMore
set_option linter.unusedVariables false
set_option linter.unusedSimpArgs false
theorem method_replace (a : Addr) (w : World) : (method 360 193 (.pointer (some a)) "Replace").run Tryz.prog w = .ok (251, .pointer (some a)) w := by kernel_rfl
set_option maxRecDepth 100000 in
set_option maxHeartbeats 2000000 in
theorem replace_walk (g : Nat) (s : ByteArray) (w : World) (base : Nat) (h : RplNew w g base) (hs : s.size ≤ 100000) :
    Calls Tryz.prog 54 #[.pointer (some ⟨g, 0, none⟩), .string s] w fun e w' => ∃ r : ByteArray, e = .returned (.string r) ∧ Hid (bs r = (bs s).filter nt) ∧ Below g w w' := by
  obtain ⟨A, c, hblk, hR⟩ := h
  have D := Lib.hid (do_walk g w A c base hblk hR)
  have hlt := blk_lt hblk
  clear hblk hR
  have hmf : ∀ (fn : Fn) (first cap : Array Value) (w : World), (Instr.makeFunc fn first cap).run Tryz.prog w = .ok (.func fn first cap) w := fun _ _ _ _ => rfl
  have hm := method_replace
  go_enter Tryz.func54, Tryz.ntmps54
  go_wp2_with (go_at_call 86; refine (D.out).mono ?_; rintro e w1 ⟨rfl, B, hB, HG, HS, HL⟩; have HLL := Lib.hid HL; clear HL; have c3 := (blk_cell HG.out 3).trans rfl; have RB := Lib.hid (bsr_replace s w1 B w.heap.size HS.out hs))
  refine (RB.out).mono ?_
  rintro e w2 ⟨r, rfl, HR, hb⟩
  have HB2 := Lib.hid hb
  clear hb
  go_wp2_with fail
  go_ret
  exact ⟨r, rfl, HR, HLL.out.trans (HB2.out.mono (Nat.le_of_lt (blk_lt HG.out)))⟩
end Go.Proofs.YtcmcopieagpppaaGreatDoor.P
namespace Go.Proofs.YtcmcopieagpppaaGreatDoor.P
open Go.RowKit Go.Proofs.YtcmcopieagpppaaGreatDoorW.PrintWords Go.Proofs.YtcmcopieagpppaaGreatDoorW.PrintLast Go.Proofs.YtcmcopieagpppaaGreatDoorW.PrintMore
set_option linter.unusedVariables false
set_option linter.unusedSimpArgs false
def Tabs (w : World) : Prop := Lib.Utf8Tabs 0 1 w ∧ (∃ m, w.cell? ⟨2, 0, none⟩ = some (.int .i64 m)) ∧ 3 ≤ w.heap.size
theorem Tabs.below {w w1 : World} (h : Tabs w) (hb : Below w.heap.size w w1) : Tabs w1 := by
  obtain ⟨h1, ⟨m, h2⟩, h3⟩ := h
  exact ⟨Go.Proofs.Utf8Tabs_below h1 hb, ⟨m, (hb.cell (p := ⟨2, 0, none⟩) (by show 2 < w.heap.size; omega)).trans h2⟩, Nat.le_trans h3 hb.size⟩
theorem Tabs.maxLen {w : World} (h : Tabs w) : ∃ m, w.cell? ⟨2, 0, none⟩ = some (.int .i64 m) := h.2.1
set_option maxRecDepth 100000 in
theorem pct_utf8_c (s : ByteArray) (w : World) (hs : s.size ≤ 9223372036854775807) (hT : Lib.Utf8Tabs 0 1 w) :
    Calls Tryz.prog 50 #[.string s] w fun e w' => e = .returned (.bool (Lib.validD (bs s))) ∧ Below w.heap.size w w' := by
  have k := Lib.hid (Tryz.utf8_ValidString s w hs hT)
  clear hT
  go_enter Tryz.func50, Tryz.ntmps50
  go_wp2_with (go_at_call 83; refine (k.out).mono ?_; rintro e w1 ⟨rfl, hb⟩; have HB := Lib.hid hb; clear hb)
  go_ret
  exact ⟨rfl, HB.out⟩
theorem six_cells_new (w : World) (cs : Array Value) (h : cs = #[.string ⟨#[9]⟩, .string ⟨#[]⟩, .string ⟨#[10]⟩, .string ⟨#[]⟩, .string ⟨#[13]⟩, .string ⟨#[]⟩]) : Kd.C Kd.string (w.alloc (.cells cs 9)) (some ⟨w.heap.size, 0, none⟩) 6 six := by
  subst h
  exact (Kd.R_reads' (Kd.R_of_own (base := w.heap.size) (ok := fun _ => True) ⟨by simp [encs], .inr ⟨_, 6, _, rfl, by simp, heap_new _ _ _ rfl, Nat.le_refl _, by decide, by simp, rfl⟩⟩ (fun _ _ => trivial))).2.2
end Go.Proofs.YtcmcopieagpppaaGreatDoor.P
namespace Go.Proofs.YtcmcopieagpppaaGreatDoor.P
set_option linter.unusedVariables false
set_option linter.unusedSimpArgs false
theorem decimal_small (n : Nat) (h : n < 10) : Web.decimal n = [UInt8.ofNat (48 + n)] := by rw [Web.decimal, if_pos h]
theorem decimal_step (n : Nat) (h : ¬ n < 10) : Web.decimal n = Web.decimal (n / 10) ++ [UInt8.ofNat (48 + n % 10)] := by rw [Web.decimal, if_neg h]
theorem dig_toNat (d : Nat) (h : d < 10) : (UInt8.ofNat (48 + d)).toNat = 48 + d := by rw [UInt8.toNat_ofNat']; omega
theorem hexV_of (d : Nat) (h : d < 10) : Web.hexV (UInt8.ofNat (48 + d)) = some d := by
  rw [hexV_dig _ (by rw [dig_toNat d h]; omega) (by rw [dig_toNat d h]; omega), dig_toNat d h]
  congr 1
  omega
theorem allDig_one (d : Nat) (h : d < 10) : Web.allDig 10 [UInt8.ofNat (48 + d)] = true := by
  show ((match Web.hexV (UInt8.ofNat (48 + d)) with | some v => decide (v < 10) | none => false) && true) = true
  rw [hexV_of d h, Bool.and_true]
  exact decide_eq_true h
theorem decimal_spec (n : Nat) : Web.decimal n ≠ [] ∧ (∀ c ∈ Web.decimal n, 48 ≤ c.toNat ∧ c.toNat ≤ 57) ∧ Web.allDig 10 (Web.decimal n) = true ∧ Web.value 10 (Web.decimal n) = n ∧ ((Web.decimal n).head? = some 48 → n = 0) := by
  induction n using Nat.strongRecOn with
  | ind n ih =>
    by_cases h : n < 10
    · rw [decimal_small n h]
      refine ⟨by simp, ?_, ?_, ?_, ?_⟩
      · intro c hc
        rw [List.mem_singleton] at hc
        subst hc
        rw [dig_toNat n h]; omega
      · exact allDig_one n h
      · show 10 * 0 + (Web.hexV (UInt8.ofNat (48 + n))).getD 0 = n
        rw [hexV_of n h]
        exact Nat.zero_add n
      · intro hh
        have := congrArg UInt8.toNat (Option.some.inj hh)
        rw [dig_toNat n h] at this
        have e : (48 : UInt8).toNat = 48 := rfl
        omega
    · obtain ⟨h1, h2, h3, h4, h5⟩ := ih (n / 10) (by omega)
      rw [decimal_step n h]
      have hm : n % 10 < 10 := by omega
      refine ⟨by simp, ?_, ?_, ?_, ?_⟩
      · intro c hc
        rcases List.mem_append.1 hc with hc | hc
        · exact h2 c hc
        · rw [List.mem_singleton] at hc
          subst hc
          rw [dig_toNat _ hm]; omega
      · have := allDig_one _ hm
        unfold Web.allDig at h3 this ⊢
        rw [List.all_append, h3, this]
        rfl
      · rw [value_snoc, h4, hexV_of _ hm]
        show 10 * (n / 10) + n % 10 = n
        omega
      · intro hh
        rw [List.head?_append, List.head?_eq_some_head h1] at hh
        have := h5 (by rw [List.head?_eq_some_head h1]; exact hh)
        omega
theorem decimal_lead (n : Nat) (b : UInt8) (t : List UInt8) : Web.decimal n ≠ 48 :: b :: t := by
  intro h
  have h0 := (decimal_spec n).2.2.2.2 (by rw [h]; rfl)
  subst h0
  rw [decimal_zero] at h
  cases h
theorem part_decimal (n : Nat) (h : n < 4294967296) : Web.part (Web.decimal n) = some n := by
  obtain ⟨h1, _, h3, h4, _⟩ := decimal_spec n
  have := part_dec (Web.decimal n) (decimal_lead n)
  rw [if_pos ⟨h3, h1, by rw [h4]; exact h⟩, h4] at this
  unfold partP at this
  cases hp : Web.part (Web.decimal n) with
  | none => rw [hp] at this; simp at this
  | some m =>
    rw [hp] at this
    have := congrArg Prod.fst this
    simp only [] at this
    congr 1
    omega
theorem dig_facts (c : UInt8) (h1 : 48 ≤ c.toNat) (h2 : c.toNat ≤ 57) : Web.forbidden c = false ∧ c ≠ 46 ∧ Web.lowerB c = c := by
  have key : ∀ n : Nat, n < 256 → 48 ≤ (UInt8.ofNat n).toNat → (UInt8.ofNat n).toNat ≤ 57 → Web.forbidden (UInt8.ofNat n) = false ∧ UInt8.ofNat n ≠ 46 ∧ Web.lowerB (UInt8.ofNat n) = UInt8.ofNat n := by decide +kernel
  exact byte_all (P := fun c => 48 ≤ c.toNat → c.toNat ≤ 57 → Web.forbidden c = false ∧ c ≠ 46 ∧ Web.lowerB c = c) key c h1 h2
theorem decimal_no46 (n : Nat) : ∀ x ∈ Web.decimal n, x ≠ 46 := fun x hx => by
  obtain ⟨h1, h2⟩ := (decimal_spec n).2.1 x hx
  exact (dig_facts x h1 h2).2.1
theorem addr_split (a : Nat) : Web.splitOn 46 (Web.addrText a) = [Web.decimal (a / 16777216), Web.decimal (a / 65536 % 256), Web.decimal (a / 256 % 256), Web.decimal (a % 256)] := by
  unfold Web.addrText
  rw [List.append_assoc, List.append_assoc, List.append_assoc, List.append_assoc, List.append_assoc]
  show Web.splitOn 46 (Web.decimal (a / 16777216) ++ 46 :: (Web.decimal (a / 65536 % 256) ++ 46 :: (Web.decimal (a / 256 % 256) ++ 46 :: Web.decimal (a % 256)))) = _
  rw [splitOn_more _ _ _ (decimal_no46 _), splitOn_more _ _ _ (decimal_no46 _), splitOn_more _ _ _ (decimal_no46 _), splitOn_one _ _ (decimal_no46 _)]
theorem addr_parts (a : Nat) : Web.partsOf (Web.addrText a) = [Web.decimal (a / 16777216), Web.decimal (a / 65536 % 256), Web.decimal (a / 256 % 256), Web.decimal (a % 256)] := by
  rw [partsOf_def, addr_split, if_neg]
  rintro ⟨_, h⟩
  exact (decimal_spec (a % 256)).1 (Option.some.inj h)
theorem number_addr (a : Nat) (h : a < 4294967296) : Web.number (Web.addrText a) = some a := by
  unfold Web.number
  rw [addr_parts, if_neg (by simp), numberFrom_more, part_decimal _ (by omega)]
  simp only []
  rw [if_neg (by omega), numberFrom_more, part_decimal _ (by omega)]
  simp only []
  rw [if_neg (by omega), numberFrom_more, part_decimal _ (by omega)]
  simp only []
  rw [if_neg (by omega), numberFrom_one, part_decimal _ (by omega)]
  simp only []
  rw [if_pos (by omega)]
  congr 1
  omega
theorem addr_chars (a : Nat) : ∀ c ∈ Web.addrText a, Web.forbidden c = false ∧ Web.lowerB c = c := by
  have h46 : Web.forbidden 46 = false ∧ Web.lowerB 46 = 46 := by decide
  have hd : ∀ n, ∀ c ∈ Web.decimal n, Web.forbidden c = false ∧ Web.lowerB c = c := fun n c hc => by
    obtain ⟨h1, h2⟩ := (decimal_spec n).2.1 c hc
    have := dig_facts c h1 h2
    exact ⟨this.1, this.2.2⟩
  intro c hc
  unfold Web.addrText at hc
  simp only [List.mem_append, List.mem_singleton] at hc
  rcases hc with (((((hc | rfl) | hc) | rfl) | hc) | rfl) | hc
  all_goals first | exact h46 | exact hd _ c hc
theorem addr_ne (a : Nat) : Web.addrText a ≠ [] := by
  unfold Web.addrText
  simp
theorem addr_len (a : Nat) (ha : a < 4294967296) : (Web.addrText a).length ≤ 83 := by
  unfold Web.addrText
  have h1 := decimal_len (a / 16777216) (by omega)
  have h2 := decimal_len (a / 65536 % 256) (by omega)
  have h3 := decimal_len (a / 256 % 256) (by omega)
  have h4 := decimal_len (a % 256) (by omega)
  simp only [List.length_append, List.length_cons, List.length_nil]
  omega
theorem dec_same : ∀ l : List UInt8, (∀ c ∈ l, c ≠ 37) → Web.dec l = l
  | [], _ => dec_nil
  | c :: t, h => by
    rw [dec_plain c t (fun a b t' e => absurd e (h c (by simp))), dec_same t (fun x hx => h x (by simp [hx]))]
theorem lowerL_same (l : List UInt8) (h : ∀ c ∈ l, Web.lowerB c = c) : Web.lowerL l = l := by
  unfold Web.lowerL
  rw [List.map_congr_left h, List.map_id']
theorem lowerB_twice (c : UInt8) : Web.lowerB (Web.lowerB c) = Web.lowerB c := by
  have key : ∀ n : Nat, n < 256 → Web.lowerB (Web.lowerB (UInt8.ofNat n)) = Web.lowerB (UInt8.ofNat n) := by decide +kernel
  exact byte_all (P := fun c => Web.lowerB (Web.lowerB c) = Web.lowerB c) key c
theorem lowerL_twice (l : List UInt8) : Web.lowerL (Web.lowerL l) = Web.lowerL l := lowerL_same _ (fun c hc => by
  unfold Web.lowerL at hc
  obtain ⟨b, _, rfl⟩ := List.mem_map.1 hc
  exact lowerB_twice b)
theorem host_def (s : List UInt8) : Web.host s = if Web.lowerL (Web.dec s) = [] then none else if (Web.lowerL (Web.dec s)).any Web.forbidden then none else if Web.numeric ((Web.partsOf (Web.lowerL (Web.dec s))).getLast?.getD []) then (Web.number (Web.lowerL (Web.dec s))).map Web.addrText else some (Web.lowerL (Web.dec s)) := rfl
theorem any_no {l : List UInt8} (h : ∀ c ∈ l, Web.forbidden c = false) : l.any Web.forbidden = false := by
  rw [List.any_eq_false]
  exact fun c hc => by rw [h c hc]; decide
theorem host_addr (a : Nat) (h : a < 4294967296) : Web.host (Web.addrText a) = some (Web.addrText a) := by
  have e : Web.lowerL (Web.dec (Web.addrText a)) = Web.addrText a := by
    rw [dec_same _ (fun c hc => (forbidden_no c (addr_chars a c hc).1).2.2.2.2), lowerL_same _ (fun c hc => (addr_chars a c hc).2)]
  have hn : Web.numeric (Web.decimal (a % 256)) = true := by
    rw [numeric_dec _ (hexTail_none _ (fun b t e => absurd e (decimal_lead _ b t))), (decimal_spec _).2.2.1]
    cases hd : Web.decimal (a % 256) with
    | nil => exact absurd hd (decimal_spec _).1
    | cons c t => rfl
  rw [host_def, e, if_neg (addr_ne a), any_no (fun c hc => (addr_chars a c hc).1), if_neg (by decide), addr_parts, if_pos (by exact hn), number_addr a h]
  rfl
theorem host_again {s h : List UInt8} (hh : Web.host s = some h) : Web.host h = some h ∧ h ≠ [] ∧ ∀ c ∈ h, Web.forbidden c = false := by
  rw [host_def] at hh
  split at hh
  · cases hh
  rename_i h1
  split at hh
  · cases hh
  rename_i h2
  split at hh
  · rename_i h3
    cases hn : Web.number (Web.lowerL (Web.dec s)) with
    | none => rw [hn] at hh; cases hh
    | some n =>
      rw [hn] at hh
      obtain rfl := Option.some.inj hh
      exact ⟨host_addr n (number_lt _ n hn), addr_ne n, fun c hc => (addr_chars n c hc).1⟩
  · rename_i h3
    obtain rfl := Option.some.inj hh
    have hf : ∀ c ∈ Web.lowerL (Web.dec s), Web.forbidden c = false := fun c hc => by
      cases hx : Web.forbidden c with
      | false => rfl
      | true => exact absurd (List.any_eq_true.2 ⟨c, hc, hx⟩) h2
    have e : Web.lowerL (Web.dec (Web.lowerL (Web.dec s))) = Web.lowerL (Web.dec s) := by
      rw [dec_same _ (fun c hc => (forbidden_no c (hf c hc)).2.2.2.2), lowerL_twice]
    refine ⟨?_, h1, hf⟩
    rw [host_def, e, if_neg h1, if_neg h2, if_neg h3]
theorem host_len {s h : List UInt8} (hh : Web.host s = some h) : h.length ≤ s.length + 83 := by
  rw [host_def] at hh
  have hl : (Web.lowerL (Web.dec s)).length ≤ s.length := by rw [Web.lowerL_length]; exact dec_len _ _ (Nat.le_refl _)
  split at hh
  · cases hh
  split at hh
  · cases hh
  split at hh
  · cases hn : Web.number (Web.lowerL (Web.dec s)) with
    | none => rw [hn] at hh; cases hh
    | some n =>
      rw [hn] at hh
      obtain rfl := Option.some.inj hh
      have := addr_len n (number_lt _ n hn)
      omega
  · obtain rfl := Option.some.inj hh
    omega
end Go.Proofs.YtcmcopieagpppaaGreatDoor.P
namespace Go.Proofs.YtcmcopieagpppaaGreatDoor.P
set_option linter.unusedVariables false
set_option linter.unusedSimpArgs false
theorem port_schemes {s : List UInt8} {d : Nat} (h : Web.port? s = some d) : s = [104, 116, 116, 112] ∧ d = 80 ∨ s = [119, 115] ∧ d = 80 ∨ s = [104, 116, 116, 112, 115] ∧ d = 443 ∨ s = [119, 115, 115] ∧ d = 443 ∨ s = [102, 116, 112] ∧ d = 21 := by
  unfold Web.port? at h
  split at h
  · rename_i e
    have := Option.some.inj h
    rcases e with e | e
    · exact .inl ⟨e, this.symm⟩
    · exact .inr (.inl ⟨e, this.symm⟩)
  · split at h
    · rename_i e
      have := Option.some.inj h
      rcases e with e | e
      · exact .inr (.inr (.inl ⟨e, this.symm⟩))
      · exact .inr (.inr (.inr (.inl ⟨e, this.symm⟩)))
    · split at h
      · rename_i e
        exact .inr (.inr (.inr (.inr ⟨e, (Option.some.inj h).symm⟩)))
      · cases h
theorem port_facts {s : List UInt8} {d : Nat} (h : Web.port? s = some d) : Web.lowerL s = s ∧ s ≠ [] ∧ (∀ c ∈ s, (c == 58) = false) ∧ (∀ c ∈ s, vis c) ∧ s.length ≤ 5 := by
  unfold vis
  rcases port_schemes h with ⟨rfl, _⟩ | ⟨rfl, _⟩ | ⟨rfl, _⟩ | ⟨rfl, _⟩ | ⟨rfl, _⟩ <;> exact ⟨rfl, by simp, by decide, by decide, by decide⟩
theorem url_clean {l s A R : List UInt8} {d : Nat} (hv : Lib.validD l = true) (hc : Web.clean l = s ++ 58 :: (47 :: 47 :: (A ++ R))) (hd : Web.port? s = some d) (hA : A ≠ []) (hE : ∀ c ∈ A, Web.ends c = false) (hR : R = [] ∨ ∃ c t, R = c :: t ∧ Web.ends c = true) :
    Web.url l = match Web.auth d A with
      | none => none
      | some (user, pass, h, p) => some { scheme := s, user := user, pass := pass, host := h, port := p, path := Web.path (Web.brk (fun c => c == 63 || c == 35) R).1, hasQ := !(Web.brk (· == 35) (Web.brk (fun c => c == 63 || c == 35) R).2).1.isEmpty, query := Web.enc 2 ((Web.brk (· == 35) (Web.brk (fun c => c == 63 || c == 35) R).2).1.drop 1), hasF := !(Web.brk (· == 35) (Web.brk (fun c => c == 63 || c == 35) R).2).2.isEmpty, frag := Web.enc 1 ((Web.brk (· == 35) (Web.brk (fun c => c == 63 || c == 35) R).2).2.drop 1) } := by
  obtain ⟨h1, h2, h3, h4, _⟩ := port_facts hd
  have hb : Web.brk (· == 58) (s ++ 58 :: (47 :: 47 :: (A ++ R))) = (s, 58 :: (47 :: 47 :: (A ++ R))) := brk_app _ _ _ _ h3 rfl
  have hs : (47 :: 47 :: (A ++ R) : List UInt8).dropWhile Web.slash = A ++ R := by
    rw [List.dropWhile_cons_of_pos rfl, List.dropWhile_cons_of_pos rfl]
    cases A with
    | nil => exact absurd rfl hA
    | cons c t =>
      have := hE c (by simp)
      have hns : Web.slash c = false := by
        unfold Web.ends at this
        unfold Web.slash
        simp only [Bool.or_eq_false_iff] at this ⊢
        exact this.1.1
      rw [List.cons_append, List.dropWhile_cons_of_neg (by rw [hns]; decide)]
  have he : Web.brk Web.ends (A ++ R) = (A, R) := by
    rcases hR with rfl | ⟨c, t, rfl, hcc⟩
    · rw [List.append_nil]; exact brk_all _ _ hE
    · exact brk_app _ _ _ _ hE hcc
  unfold Web.url
  rw [if_neg (by rw [hv]; decide), hc, hb]
  simp only [h1, hd, hs, he]
  rfl
theorem rest_parts (P Q F : List UInt8) (hP : ∀ c ∈ P, (c == 63 || c == 35) = false) (hQ : Q = [] ∨ ∃ q, Q = 63 :: q ∧ ∀ c ∈ q, (c == 35) = false) (hF : F = [] ∨ ∃ f, F = 35 :: f) :
    (Web.brk (fun c => c == 63 || c == 35) (P ++ (Q ++ F))).1 = P ∧ Web.brk (· == 35) (Web.brk (fun c => c == 63 || c == 35) (P ++ (Q ++ F))).2 = (Q, F) := by
  have e1 : Web.brk (fun c => c == 63 || c == 35) (P ++ (Q ++ F)) = (P, Q ++ F) := by
    rcases hQ with rfl | ⟨q, rfl, hq⟩
    · rcases hF with rfl | ⟨f, rfl⟩
      · rw [List.append_nil, List.append_nil]; exact brk_all _ _ hP
      · rw [List.nil_append]; exact brk_app (fun c => c == 63 || c == 35) P 35 f hP rfl
    · rw [List.cons_append]; exact brk_app (fun c => c == 63 || c == 35) P 63 (q ++ F) hP rfl
  rw [e1]
  refine ⟨rfl, ?_⟩
  have hQ' : ∀ c ∈ Q, (c == 35) = false := by
    rcases hQ with rfl | ⟨q, rfl, hq⟩
    · simp
    · intro c hc
      rcases List.mem_cons.1 hc with rfl | hc
      · rfl
      · exact hq c hc
  rcases hF with rfl | ⟨f, rfl⟩
  · rw [List.append_nil]; exact brk_all _ _ hQ'
  · exact brk_app (· == 35) Q 35 f hQ' rfl
theorem userHost_none (b : List UInt8) (h : ∀ c ∈ b, c ≠ 64) : Web.userHost b = (none, b) := by
  unfold Web.userHost
  rw [if_neg]
  intro hc
  exact h 64 (by simpa using hc) rfl
theorem userHost_some (A B : List UInt8) (h : ∀ c ∈ B, c ≠ 64) : Web.userHost (A ++ 64 :: B) = (some A, B) := by
  unfold Web.userHost
  rw [if_pos (by simp)]
  have d : (A ++ 64 :: B).reverse = B.reverse ++ 64 :: A.reverse := by simp
  have hB : ∀ x ∈ B.reverse, (x != 64) = true := by
    intro x hx
    rw [bne_iff_ne]
    exact h x (by simpa using hx)
  rw [d, List.dropWhile_append_of_pos hB, List.takeWhile_append_of_pos hB]
  simp
theorem host_port (h p : List UInt8) (hh : ∀ c ∈ h, Web.forbidden c = false) (hp : p = [] ∨ ∃ t, p = 58 :: t) : Web.brk (· == 58) (h ++ p) = (h, p) := by
  have hc : ∀ c ∈ h, (c == 58) = false := fun c hc => beq_eq_false_iff_ne.2 (forbidden_no c (hh c hc)).2.2.1
  rcases hp with rfl | ⟨t, rfl⟩
  · rw [List.append_nil]; exact brk_all _ _ hc
  · exact brk_app (· == 58) h 58 t hc rfl
def userText (u p : List UInt8) : List UInt8 := if u = [] ∧ p = [] then [] else u ++ (if p = [] then [] else 58 :: p) ++ [64]
theorem auth_text (d : Nat) (u p h pt : List UInt8) (n : Int) (hu : ∀ c ∈ u, Web.inSet 4 c = false) (hp : ∀ c ∈ p, Web.inSet 4 c = false) (hh : Web.host h = some h) (hf : ∀ c ∈ h, Web.forbidden c = false) (hpt : pt = [] ∨ ∃ t, pt = 58 :: t ∧ ∀ c ∈ t, c ≠ 64) (hn : Web.portOf d (pt.drop 1) = some n) :
    Web.auth d (userText u p ++ (h ++ pt)) = some (u, p, h, n) := by
  have hno : ∀ c ∈ h ++ pt, c ≠ 64 := by
    intro c hc
    rcases List.mem_append.1 hc with hc | hc
    · exact (forbidden_no c (hf c hc)).2.2.2.1
    · rcases hpt with rfl | ⟨t, rfl, ht⟩
      · cases hc
      · rcases List.mem_cons.1 hc with rfl | hc
        · decide
        · exact ht c hc
  have hb := host_port h pt hf (by rcases hpt with h | ⟨t, h, _⟩; exact .inl h; exact .inr ⟨t, h⟩)
  rw [auth_def]
  unfold userText
  by_cases hup : u = [] ∧ p = []
  · obtain ⟨rfl, rfl⟩ := hup
    rw [if_pos ⟨rfl, rfl⟩, List.nil_append, userHost_none _ hno]
    simp only [hb, hh, hn]
    rfl
  · rw [if_neg hup]
    have e : u ++ (if p = [] then [] else 58 :: p) ++ [64] ++ (h ++ pt) = (u ++ (if p = [] then [] else 58 :: p)) ++ 64 :: (h ++ pt) := by simp
    have hu' : ∀ c ∈ u, (c == 58) = false := fun c hc => beq_eq_false_iff_ne.2 (inSet4 c (hu c hc)).2.1
    have hbu : Web.brk (· == 58) (u ++ (if p = [] then [] else 58 :: p)) = (u, if p = [] then [] else 58 :: p) := by
      by_cases hp0 : p = []
      · rw [if_pos hp0, List.append_nil]; exact brk_all _ _ hu'
      · rw [if_neg hp0]; exact brk_app (· == 58) u 58 p hu' rfl
    rw [e, userHost_some _ _ hno]
    simp only [hb, hh, hn, userEnc, hbu]
    rw [enc_same 4 u hu]
    by_cases hp0 : p = []
    · subst hp0; rfl
    · rw [if_neg hp0, List.drop_one, List.tail_cons, enc_same 4 p hp]
def Seg (s : List UInt8) : Prop := Web.dots s = 0 ∧ (∀ c ∈ s, Web.slash c = false) ∧ ∀ c ∈ s, Web.inSet 3 c = false
theorem Seg_nil : Seg [] := ⟨rfl, by simp, by simp⟩
theorem encB_short (k : Nat) (c : UInt8) (h : Web.inSet k c = true) : Web.encB k c = [37, Web.hexU (c.toNat / 16), Web.hexU (c.toNat % 16)] := by
  unfold Web.encB
  rw [if_pos h]
theorem enc_hit (k : Nat) (s : List UInt8) (c : UInt8) (hc : c ∈ s) (h : Web.inSet k c = true) (E : List UInt8) (hE : E = Web.enc k s) : ∃ i : Nat, E[i]? = some 37 ∧ E[i + 1]? = some (Web.hexU (c.toNat / 16)) ∧ E[i + 2]? = some (Web.hexU (c.toNat % 16)) := by
  obtain ⟨a, b, rfl⟩ := List.append_of_mem hc
  have e : E = Web.enc k a ++ ([37, Web.hexU (c.toNat / 16), Web.hexU (c.toNat % 16)] ++ Web.enc k b) := by
    rw [hE, ← encB_short k c h, ← enc_cons]
    simp [Web.enc]
  clear hE
  have hm : ∀ (X Y : List UInt8) (j : Nat), (X ++ Y)[X.length + j]? = Y[j]? := fun X Y j => by
    rw [List.getElem?_append_right (by omega), Nat.add_sub_cancel_left]
  refine ⟨(Web.enc k a).length, ?_, ?_, ?_⟩
  · rw [e]; exact hm _ _ 0
  · rw [e]; exact hm _ _ 1
  · rw [e]; exact hm _ _ 2
def dotTexts : List (List UInt8) := [[46], [37, 50, 101], [46, 46], [46, 37, 50, 101], [37, 50, 101, 46], [37, 50, 101, 37, 50, 101]]
theorem dots_mem (s : List UInt8) (h : Web.dots s ≠ 0) : Web.lowerL s ∈ dotTexts := by
  unfold Web.dots at h
  simp only [] at h
  unfold dotTexts
  simp only [List.mem_cons, List.not_mem_nil, or_false]
  split at h
  · rename_i e
    rcases e with e | e
    · exact .inl e
    · exact .inr (.inl e)
  · split at h
    · rename_i e
      exact .inr (.inr e)
    · exact absurd rfl h
theorem dot_follow : ∀ t ∈ dotTexts, ∀ i, i < 6 → t[i]? = some 37 → t[i + 1]? = some 50 ∧ t[i + 2]? = some 101 := by decide
theorem dot_short : ∀ t ∈ dotTexts, t.length ≤ 6 := by decide
theorem hexU_50 : ∀ n : Nat, n < 16 → Web.lowerB (Web.hexU n) = 50 → n = 2 := by decide +kernel
theorem hexU_101 : ∀ n : Nat, n < 16 → Web.lowerB (Web.hexU n) = 101 → n = 14 := by decide +kernel
theorem dots_enc (s : List UInt8) (h : Web.dots s = 0) : Web.dots (Web.enc 3 s) = 0 := by
  by_cases hs : ∀ c ∈ s, Web.inSet 3 c = false
  · rw [enc_same 3 s hs]; exact h
  · by_cases hd : Web.dots (Web.enc 3 s) = 0
    · exact hd
    · exfalso
      have hm := dots_mem _ hd
      obtain ⟨c, hc⟩ : ∃ c, ¬ (c ∈ s → Web.inSet 3 c = false) := Classical.not_forall.1 hs
      obtain ⟨hc, hi⟩ := Classical.not_imp.1 hc
      obtain ⟨i, h1, h2, h3⟩ := enc_hit 3 s c hc (by simpa using hi) _ rfl
      have g : ∀ (E : List UInt8) (j : Nat) (x : UInt8), E[j]? = some x → (Web.lowerL E)[j]? = some (Web.lowerB x) := fun E j x hx => by
        unfold Web.lowerL
        rw [List.getElem?_map, hx]
        rfl
      have k1 := g _ _ _ h1
      have k2 := g _ _ _ h2
      have k3 := g _ _ _ h3
      have hlt : i < 6 := by
        have := (List.getElem?_eq_some_iff.1 k1).1
        have := dot_short _ hm
        omega
      obtain ⟨m2, m3⟩ := dot_follow _ hm i hlt k1
      rw [k2] at m2
      rw [k3] at m3
      have n2 := hexU_50 _ (by have := c.toNat_lt; omega) (Option.some.inj m2)
      have n3 := hexU_101 _ (by omega) (Option.some.inj m3)
      have e : c = 46 := by
        apply UInt8.toNat_inj.1
        show c.toNat = 46
        omega
      subst e
      exact hi (by decide)
theorem slash_hexU : ∀ n : Nat, n < 16 → Web.slash (Web.hexU n) = false := by decide +kernel
theorem enc_slash (k : Nat) (s : List UInt8) (h : ∀ c ∈ s, Web.slash c = false) : ∀ c ∈ Web.enc k s, Web.slash c = false := by
  intro c hc
  unfold Web.enc at hc
  obtain ⟨b, hb0, hb⟩ := List.mem_flatMap.1 hc
  unfold Web.encB at hb
  split at hb
  · simp only [List.mem_cons, List.not_mem_nil, or_false] at hb
    rcases hb with rfl | rfl | rfl
    · rfl
    · exact slash_hexU _ (by have := b.toNat_lt; omega)
    · exact slash_hexU _ (by omega)
  · rw [List.mem_singleton] at hb
    subst hb
    exact h _ hb0
theorem Seg_enc (s : List UInt8) (hd : Web.dots s = 0) (h : ∀ c ∈ s, Web.slash c = false) : Seg (Web.enc 3 s) := ⟨dots_enc s hd, enc_slash 3 s h, enc_clean 3 s⟩
theorem seg_Segs (acc : List (List UInt8)) (s : List UInt8) (last : Bool) (ha : ∀ x ∈ acc, Seg x) (h : ∀ c ∈ s, Web.slash c = false) : ∀ x ∈ Web.seg acc s last, Seg x := by
  have ha' : ∀ x ∈ (if Web.dots s = 2 then acc.dropLast else acc), Seg x := by
    split
    · exact fun x hx => ha x ((List.dropLast_sublist acc).subset hx)
    · exact ha
  unfold Web.seg
  simp only []
  split
  · rename_i hd
    intro x hx
    rcases List.mem_append.1 hx with hx | hx
    · exact ha' x hx
    · rw [List.mem_singleton] at hx
      subst hx
      exact Seg_enc s hd h
  · split
    · intro x hx
      rcases List.mem_append.1 hx with hx | hx
      · exact ha' x hx
      · rw [List.mem_singleton] at hx
        subst hx
        exact Seg_nil
    · exact ha'
theorem segs_Segs : ∀ (L acc : List (List UInt8)), (∀ x ∈ acc, Seg x) → (∀ s ∈ L, ∀ c ∈ s, Web.slash c = false) → ∀ x ∈ Web.segs acc L, Seg x
  | [], acc, ha, _ => by unfold Web.segs; exact ha
  | [s], acc, ha, h => by
    rw [segs_one]
    exact seg_Segs acc s true ha (h s (by simp))
  | s :: t :: r, acc, ha, h => by
    rw [segs_more acc s (t :: r) (by simp)]
    exact segs_Segs (t :: r) _ (seg_Segs acc s false ha (h s (by simp))) (fun x hx => h x (by simp [hx]))
theorem splitBy_pieces (q : UInt8 → Bool) : ∀ (l : List UInt8), ∀ s ∈ Web.splitBy q l, ∀ c ∈ s, q c = false
  | [], s, hs, c, hc => by
    rw [Web.splitBy, List.mem_singleton] at hs
    subst hs
    cases hc
  | b :: t, s, hs, c, hc => by
    have ih := splitBy_pieces q t
    rw [Web.splitBy] at hs
    by_cases hb : q b = true
    · rw [if_pos hb] at hs
      rcases List.mem_cons.1 hs with rfl | hs
      · cases hc
      · exact ih s hs c hc
    · rw [if_neg hb] at hs
      cases hx : Web.splitBy q t with
      | nil => exact absurd hx (splitBy_ne q t)
      | cons h r =>
        rw [hx] at hs ih
        simp only [] at hs
        rcases List.mem_cons.1 hs with rfl | hs
        · rcases List.mem_cons.1 hc with rfl | hc
          · exact Bool.eq_false_iff.2 hb
          · exact ih h (by simp) c hc
        · exact ih s (by simp [hs]) c hc
theorem segsOf_Segs (p : List UInt8) : ∀ x ∈ Web.segsOf p, Seg x := by
  unfold Web.segsOf
  split
  · simp
  · exact segs_Segs _ _ (by simp) (fun s hs => splitBy_pieces _ p s (List.mem_of_mem_tail hs))
theorem seg_same (acc : List (List UInt8)) (s : List UInt8) (last : Bool) (h : Seg s) : Web.seg acc s last = acc ++ [s] := by
  unfold Web.seg
  simp only []
  rw [h.1, if_pos rfl, if_neg (by omega), enc_same 3 s h.2.2]
theorem segs_same : ∀ (L acc : List (List UInt8)), (∀ s ∈ L, Seg s) → Web.segs acc L = acc ++ L
  | [], acc, _ => by rw [Web.segs, List.append_nil]
  | [s], acc, h => by rw [segs_one, seg_same acc s true (h s (by simp))]
  | s :: t :: r, acc, h => by
    rw [segs_more acc s (t :: r) (by simp), seg_same acc s false (h s (by simp)), segs_same (t :: r) _ (fun x hx => h x (by simp [hx]))]
    simp
theorem split_join : ∀ (L : List (List UInt8)), (∀ s ∈ L, ∀ c ∈ s, Web.slash c = false) → Web.splitBy Web.slash (L.flatMap fun s => 47 :: s) = [] :: L
  | [], _ => rfl
  | s :: L, h => by
    rw [List.flatMap_cons, List.cons_append, Web.splitBy, if_pos (by rfl)]
    congr 1
    cases L with
    | nil => rw [List.flatMap_nil, List.append_nil]; exact splitBy_one _ s (h s (by simp))
    | cons t r =>
      have ih := split_join (t :: r) (fun x hx => h x (by simp [hx]))
      rw [List.flatMap_cons, List.cons_append] at ih ⊢
      rw [splitBy_more Web.slash 47 _ rfl s (h s (by simp))]
      rw [Web.splitBy, if_pos (by rfl)] at ih
      rw [(List.cons.inj ih).2]
theorem path_join (L : List (List UInt8)) (h : ∀ s ∈ L, Seg s) : Web.path (Web.joinSegs L) = Web.joinSegs L := by
  unfold Web.joinSegs
  by_cases h0 : L = []
  · subst h0
    rfl
  · rw [if_neg h0]
    have hne : (L.flatMap fun s => 47 :: s) ≠ [] := by
      cases L with
      | nil => exact absurd rfl h0
      | cons s r => rw [List.flatMap_cons]; simp
    unfold Web.path Web.segsOf
    rw [if_neg hne, split_join L (fun s hs => (h s hs).2.1), List.tail_cons, segs_same L [] h, List.nil_append]
    unfold Web.joinSegs
    rw [if_neg h0]
theorem path_again (p : List UInt8) : Web.path (Web.path p) = Web.path p := path_join _ (segsOf_Segs p)
theorem path_chars (p : List UInt8) : ∀ c ∈ Web.path p, Web.inSet 3 c = false := by
  intro c hc
  have h47 : Web.inSet 3 47 = false := by decide
  unfold Web.path Web.joinSegs at hc
  split at hc
  · rw [List.mem_singleton] at hc
    subst hc
    exact h47
  · obtain ⟨s, hs, hc⟩ := List.mem_flatMap.1 hc
    rcases List.mem_cons.1 hc with rfl | hc
    · exact h47
    · exact (segsOf_Segs p s hs).2.2 c hc
theorem path_head (p : List UInt8) : ∃ t, Web.path p = 47 :: t := by
  unfold Web.path Web.joinSegs
  cases Web.segsOf p with
  | nil => exact ⟨[], rfl⟩
  | cons s r => rw [if_neg (by simp), List.flatMap_cons]; exact ⟨_, rfl⟩
end Go.Proofs.YtcmcopieagpppaaGreatDoor.P
namespace Go.Proofs.YtcmcopieagpppaaGreatDoor.P
set_option linter.unusedVariables false
set_option linter.unusedSimpArgs false
structure Good (d : Nat) (u : Web.U) : Prop where
  sch : Web.port? u.scheme = some d
  user : ∀ c ∈ u.user, Web.inSet 4 c = false
  pass : ∀ c ∈ u.pass, Web.inSet 4 c = false
  host : Web.host u.host = some u.host
  hostF : ∀ c ∈ u.host, Web.forbidden c = false
  hostN : u.host ≠ []
  port : u.port = -1 ∨ ∃ n : Nat, u.port = (n : Int) ∧ n ≤ 65535 ∧ n ≠ d
  path : ∃ p, u.path = Web.path p
  q0 : u.hasQ = false → u.query = []
  q : ∀ c ∈ u.query, Web.inSet 2 c = false
  f0 : u.hasF = false → u.frag = []
  f : ∀ c ∈ u.frag, Web.inSet 1 c = false
structure Short (m : Nat) (u : Web.U) : Prop where
  user : u.user.length ≤ 3 * m
  pass : u.pass.length ≤ 3 * m
  host : u.host.length ≤ m + 83
  path : u.path.length ≤ 3 * m + 3
  query : u.query.length ≤ 3 * m
  frag : u.frag.length ≤ 3 * m
theorem portOf_good {d : Nat} {s : List UInt8} {p : Int} (h : Web.portOf d s = some p) : p = -1 ∨ ∃ n : Nat, p = (n : Int) ∧ n ≤ 65535 ∧ n ≠ d := by
  unfold Web.portOf at h
  split at h
  · exact .inl (Option.some.inj h).symm
  split at h
  · cases h
  split at h
  · cases h
  split at h
  · exact .inl (Option.some.inj h).symm
  · rename_i h1 h2
    exact .inr ⟨_, (Option.some.inj h).symm, by omega, h2⟩
theorem brk_fst_len (q : UInt8 → Bool) (l : List UInt8) : (Web.brk q l).1.length ≤ l.length := by have := brk_len q l; omega
theorem brk_snd_len (q : UInt8 → Bool) (l : List UInt8) : (Web.brk q l).2.length ≤ l.length := by have := brk_len q l; omega
theorem userHost_len (a : List UInt8) : (Web.userHost a).2.length ≤ a.length ∧ ∀ u, (Web.userHost a).1 = some u → u.length ≤ a.length := by
  unfold Web.userHost
  split
  · refine ⟨?_, fun u hu => ?_⟩
    · show (List.reverse _).length ≤ _
      rw [List.length_reverse]
      have := takeWhile_len (fun c : UInt8 => c != 64) a.reverse
      rw [List.length_reverse] at this
      exact this
    · obtain rfl := Option.some.inj hu
      rw [List.length_reverse, List.length_drop]
      have := dropWhile_len (fun c : UInt8 => c != 64) a.reverse
      rw [List.length_reverse] at this
      omega
  · exact ⟨Nat.le_refl _, fun u hu => by cases hu⟩
theorem userEnc_good (o : Option (List UInt8)) : (∀ c ∈ (userEnc o).1, Web.inSet 4 c = false) ∧ ∀ c ∈ (userEnc o).2, Web.inSet 4 c = false := by
  cases o with
  | none => exact ⟨by simp [userEnc], by simp [userEnc]⟩
  | some u => exact ⟨enc_clean 4 _, enc_clean 4 _⟩
theorem userEnc_len (o : Option (List UInt8)) (m : Nat) (h : ∀ u, o = some u → u.length ≤ m) : (userEnc o).1.length ≤ 3 * m ∧ (userEnc o).2.length ≤ 3 * m := by
  cases o with
  | none => exact ⟨by simp [userEnc], by simp [userEnc]⟩
  | some u =>
    have hu := h u rfl
    have h1 := brk_fst_len (· == 58) u
    have h2 := brk_snd_len (· == 58) u
    have h3 := enc_len 4 (Web.brk (· == 58) u).1
    have h4 := enc_len 4 ((Web.brk (· == 58) u).2.drop 1)
    rw [List.length_drop] at h4
    exact ⟨by show (Web.enc 4 _).length ≤ _; omega, by show (Web.enc 4 _).length ≤ _; omega⟩
theorem auth_good {d : Nat} {a u p h : List UInt8} {n : Int} (ha : Web.auth d a = some (u, p, h, n)) : (∀ c ∈ u, Web.inSet 4 c = false) ∧ (∀ c ∈ p, Web.inSet 4 c = false) ∧ Web.host h = some h ∧ h ≠ [] ∧ (∀ c ∈ h, Web.forbidden c = false) ∧ (n = -1 ∨ ∃ m : Nat, n = (m : Int) ∧ m ≤ 65535 ∧ m ≠ d) ∧
    u.length ≤ 3 * a.length ∧ p.length ≤ 3 * a.length ∧ h.length ≤ a.length + 83 := by
  rw [auth_def] at ha
  have g := userEnc_good (Web.userHost a).1
  have gl := userHost_len a
  have ge := userEnc_len (Web.userHost a).1 a.length gl.2
  cases hh : Web.host (Web.brk (· == 58) (Web.userHost a).2).1 with
  | none => rw [hh] at ha; cases ha
  | some x =>
    cases hp : Web.portOf d ((Web.brk (· == 58) (Web.userHost a).2).2.drop 1) with
    | none => rw [hh, hp] at ha; cases ha
    | some y =>
      rw [hh, hp] at ha
      have := Option.some.inj ha
      simp only [Prod.mk.injEq] at this
      obtain ⟨rfl, rfl, rfl, rfl⟩ := this
      obtain ⟨k1, k2, k3⟩ := host_again hh
      have hl := host_len hh
      have := brk_fst_len (· == 58) (Web.userHost a).2
      exact ⟨g.1, g.2, k1, k2, k3, portOf_good hp, ge.1, ge.2, by omega⟩
def segLen (L : List (List UInt8)) : Nat := (L.flatMap fun s => 47 :: s).length
theorem segLen_cons (s : List UInt8) (L : List (List UInt8)) : segLen (s :: L) = s.length + 1 + segLen L := by
  unfold segLen
  rw [List.flatMap_cons, List.length_append, List.length_cons]
theorem segLen_app (L M : List (List UInt8)) : segLen (L ++ M) = segLen L + segLen M := by
  unfold segLen
  rw [List.flatMap_append, List.length_append]
theorem segLen_drop (L : List (List UInt8)) : segLen L.dropLast ≤ segLen L := by
  by_cases h : L = []
  · subst h; exact Nat.le_refl _
  · have := segLen_app L.dropLast [L.getLast h]
    rw [List.dropLast_concat_getLast] at this
    omega
theorem segLen_one (s : List UInt8) : segLen [s] = s.length + 1 := by rw [segLen_cons]; rfl
theorem seg_len (acc : List (List UInt8)) (s : List UInt8) (last : Bool) : segLen (Web.seg acc s last) ≤ segLen acc + 3 * s.length + 1 := by
  have h := segLen_drop acc
  have he := enc_len 3 s
  unfold Web.seg
  simp only []
  repeat' split
  all_goals (try rw [segLen_app, segLen_one]) <;> (try rw [List.length_nil]) <;> omega
theorem segs_len : ∀ (L acc : List (List UInt8)), segLen (Web.segs acc L) ≤ segLen acc + 3 * segLen L
  | [], acc => by rw [Web.segs]; omega
  | [s], acc => by
    rw [segs_one, segLen_one]
    have := seg_len acc s true
    omega
  | s :: t :: r, acc => by
    rw [segs_more acc s (t :: r) (by simp)]
    have h1 := segs_len (t :: r) (Web.seg acc s false)
    have h2 := seg_len acc s false
    have h3 := segLen_cons s (t :: r)
    omega
theorem splitBy_len (q : UInt8 → Bool) : ∀ l : List UInt8, segLen (Web.splitBy q l) = l.length + 1
  | [] => rfl
  | b :: t => by
    have ih := splitBy_len q t
    rw [Web.splitBy, List.length_cons]
    by_cases hb : q b = true
    · rw [if_pos hb, segLen_cons, ih, List.length_nil]
      omega
    · rw [if_neg hb]
      cases hx : Web.splitBy q t with
      | nil => exact absurd hx (splitBy_ne q t)
      | cons h r =>
        rw [hx, segLen_cons] at ih
        simp only []
        rw [segLen_cons, List.length_cons]
        omega
theorem path_len (p : List UInt8) : (Web.path p).length ≤ 3 * p.length + 3 := by
  unfold Web.path Web.joinSegs Web.segsOf
  by_cases hp : p = []
  · subst hp
    exact Nat.le_of_ble_eq_true rfl
  · rw [if_neg hp]
    have h1 := segs_len (Web.splitBy Web.slash p).tail []
    have h2 := splitBy_len Web.slash p
    have h3 : segLen (Web.splitBy Web.slash p).tail ≤ segLen (Web.splitBy Web.slash p) := by
      cases hx : Web.splitBy Web.slash p with
      | nil => exact Nat.le_refl _
      | cons h r => rw [segLen_cons, List.tail_cons]; omega
    have h0 : segLen [] = 0 := rfl
    split
    · simp
    · show segLen _ ≤ _
      omega
theorem url_good {l : List UInt8} {u : Web.U} (h : Web.url l = some u) : ∃ d, Good d u ∧ Short l.length u := by
  unfold Web.url at h
  split at h
  · cases h
  have hcl := clean_len l
  generalize Web.clean l = x at h hcl
  have hs1 := brk_snd_len (· == 58) x
  dsimp only at h
  generalize (Web.brk (· == 58) x).1 = s at h
  generalize (Web.brk (· == 58) x).2 = r0 at h hs1
  cases r0 with
  | nil => cases h
  | cons c r =>
    dsimp only at h
    rw [List.length_cons] at hs1
    cases hp : Web.port? (Web.lowerL s) with
    | none => rw [hp] at h; cases h
    | some d =>
      rw [hp] at h
      dsimp only at h
      have hdw := dropWhile_len Web.slash r
      generalize r.dropWhile Web.slash = y at h hdw
      have ha1 := brk_fst_len Web.ends y
      have ha2 := brk_snd_len Web.ends y
      generalize (Web.brk Web.ends y).1 = a at h ha1
      generalize (Web.brk Web.ends y).2 = z at h ha2
      cases ha : Web.auth d a with
      | none => rw [ha] at h; cases h
      | some t =>
        obtain ⟨us, pa, ho, n⟩ := t
        rw [ha] at h
        dsimp only at h
        obtain ⟨g1, g2, g3, g4, g5, g6, g7, g8, g9⟩ := auth_good ha
        have hz1 := brk_fst_len (fun c => c == 63 || c == 35) z
        have hz2 := brk_snd_len (fun c => c == 63 || c == 35) z
        generalize (Web.brk (fun c => c == 63 || c == 35) z).1 = pp at h hz1
        generalize (Web.brk (fun c => c == 63 || c == 35) z).2 = qq at h hz2
        have hq1 := brk_fst_len (· == 35) qq
        have hq2 := brk_snd_len (· == 35) qq
        generalize (Web.brk (· == 35) qq).1 = Q at h hq1
        generalize (Web.brk (· == 35) qq).2 = F at h hq2
        obtain rfl := Option.some.inj h
        have e2 := enc_len 2 (Q.drop 1)
        have e1 := enc_len 1 (F.drop 1)
        rw [List.length_drop] at e1 e2
        have e3 := path_len pp
        refine ⟨d, ⟨hp, g1, g2, g3, g5, g4, g6, ⟨pp, rfl⟩, fun hq => ?_, enc_clean 2 _, fun hf => ?_, enc_clean 1 _⟩, ⟨?_, ?_, ?_, ?_, ?_, ?_⟩⟩
        · have : Q = [] := by simpa using hq
          subst this; rfl
        · have : F = [] := by simpa using hf
          subst this; rfl
        all_goals (dsimp only; omega)
def portPart (n : Int) : List UInt8 := if n = -1 then [] else 58 :: Web.portText n
theorem portText_nat (n : Nat) : Web.portText (n : Int) = Web.decimal n := by
  unfold Web.portText
  rw [if_neg (by omega)]
  rfl
theorem text_def (u : Web.U) : Web.text u = u.scheme ++ 58 :: (47 :: 47 :: ((userText u.user u.pass ++ (u.host ++ portPart u.port)) ++ (u.path ++ ((if u.hasQ then 63 :: u.query else []) ++ (if u.hasF then 35 :: u.frag else []))))) := by
  unfold Web.text userText portPart
  simp only [List.append_assoc, List.cons_append, List.nil_append]
theorem decimal_vis (n : Nat) : ∀ c ∈ Web.decimal n, vis c ∧ Web.ends c = false ∧ c ≠ 64 := by
  intro c hc
  obtain ⟨h1, h2⟩ := (decimal_spec n).2.1 c hc
  have := forbidden_no c (dig_facts c h1 h2).1
  exact ⟨this.1, this.2.1, this.2.2.2.1⟩
theorem portOf_decimal (d n : Nat) (h1 : n ≤ 65535) (h2 : n ≠ d) : Web.portOf d (Web.decimal n) = some (n : Int) := by
  obtain ⟨k1, _, k3, k4, _⟩ := decimal_spec n
  rw [portOf_ok d _ k3 (by omega), k4, if_neg]
  rintro (h | h)
  · exact k1 h
  · exact h2 h
theorem portPart_good {d : Nat} {n : Int} (h : n = -1 ∨ ∃ m : Nat, n = (m : Int) ∧ m ≤ 65535 ∧ m ≠ d) : (portPart n = [] ∨ ∃ t, portPart n = 58 :: t ∧ ∀ c ∈ t, c ≠ 64) ∧ Web.portOf d ((portPart n).drop 1) = some n ∧ (∀ c ∈ portPart n, vis c ∧ Web.ends c = false) ∧ (portPart n).length ≤ 21 := by
  unfold portPart
  rcases h with rfl | ⟨m, rfl, h1, h2⟩
  · rw [if_pos rfl]
    exact ⟨.inl rfl, rfl, by simp, by simp⟩
  · rw [if_neg (by omega), portText_nat]
    refine ⟨.inr ⟨_, rfl, fun c hc => (decimal_vis m c hc).2.2⟩, portOf_decimal d m h1 h2, ?_, ?_⟩
    · intro c hc
      rcases List.mem_cons.1 hc with rfl | hc
      · exact ⟨by unfold vis; decide, rfl⟩
      · exact ⟨(decimal_vis m c hc).1, (decimal_vis m c hc).2.1⟩
    · have := decimal_len m (by omega)
      rw [List.length_cons]
      omega
theorem userText_chars (u p : List UInt8) (hu : ∀ c ∈ u, Web.inSet 4 c = false) (hp : ∀ c ∈ p, Web.inSet 4 c = false) : ∀ c ∈ userText u p, vis c ∧ Web.ends c = false := by
  have k : ∀ c, Web.inSet 4 c = false → vis c ∧ Web.ends c = false := fun c h => ⟨inSet_vis 4 (by omega) (by omega) c h, (inSet4 c h).1⟩
  have k58 : vis 58 ∧ Web.ends 58 = false := ⟨by unfold vis; decide, rfl⟩
  have k64 : vis 64 ∧ Web.ends 64 = false := ⟨by unfold vis; decide, rfl⟩
  intro c hc
  unfold userText at hc
  split at hc
  · cases hc
  · simp only [List.mem_append, List.mem_singleton] at hc
    rcases hc with (hc | hc) | rfl
    · exact k c (hu c hc)
    · split at hc
      · cases hc
      · rcases List.mem_cons.1 hc with rfl | hc
        · exact k58
        · exact k c (hp c hc)
    · exact k64
theorem userText_len (u p : List UInt8) : (userText u p).length ≤ u.length + p.length + 2 := by
  unfold userText
  split
  · simp
  · split <;> simp only [List.length_append, List.length_cons, List.length_nil] <;> omega
theorem qf_parts {u : Web.U} {d : Nat} (g : Good d u) : ((if u.hasQ then 63 :: u.query else []) = [] ∨ ∃ q, (if u.hasQ then 63 :: u.query else []) = 63 :: q ∧ ∀ c ∈ q, (c == 35) = false) ∧ ((if u.hasF then 35 :: u.frag else []) = [] ∨ ∃ f, (if u.hasF then 35 :: u.frag else []) = 35 :: f) := by
  refine ⟨?_, ?_⟩
  · cases u.hasQ
    · exact .inl rfl
    · exact .inr ⟨_, rfl, fun c hc => inSet2 c (g.q c hc)⟩
  · cases u.hasF
    · exact .inl rfl
    · exact .inr ⟨_, rfl⟩
theorem text_vis {u : Web.U} {d : Nat} (g : Good d u) : ∀ c ∈ Web.text u, vis c := by
  obtain ⟨_, _, _, hsv, _⟩ := port_facts g.sch
  have v58 : vis 58 := by unfold vis; decide
  have v47 : vis 47 := by unfold vis; decide
  have v63 : vis 63 := by unfold vis; decide
  have v35 : vis 35 := by unfold vis; decide
  intro c hc
  rw [text_def] at hc
  simp only [List.mem_append, List.mem_cons] at hc
  rcases hc with hc | rfl | rfl | rfl | (hc | hc | hc) | hc | hc | hc
  · exact hsv c hc
  · exact v58
  · exact v47
  · exact v47
  · exact (userText_chars _ _ g.user g.pass c hc).1
  · exact (forbidden_no c (g.hostF c hc)).1
  · exact ((portPart_good g.port).2.2.1 c hc).1
  · obtain ⟨p, hp⟩ := g.path
    rw [hp] at hc
    exact inSet_vis 3 (by omega) (by omega) c (path_chars p c hc)
  · split at hc
    · rcases List.mem_cons.1 hc with rfl | hc
      · exact v63
      · exact inSet_vis 2 (by omega) (by omega) c (g.q c hc)
    · cases hc
  · split at hc
    · rcases List.mem_cons.1 hc with rfl | hc
      · exact v35
      · exact inSet_vis 1 (by omega) (by omega) c (g.f c hc)
    · cases hc
theorem text_url {u : Web.U} {d : Nat} (g : Good d u) : Web.url (Web.text u) = some u := by
  have hv := text_vis g
  obtain ⟨pp, hpp⟩ := g.path
  obtain ⟨pt, hpt⟩ := path_head pp
  have pg := portPart_good g.port
  have hA : userText u.user u.pass ++ (u.host ++ portPart u.port) ≠ [] := by simp [g.hostN]
  have hE : ∀ c ∈ userText u.user u.pass ++ (u.host ++ portPart u.port), Web.ends c = false := by
    intro c hc
    simp only [List.mem_append] at hc
    rcases hc with hc | hc | hc
    · exact (userText_chars _ _ g.user g.pass c hc).2
    · exact (forbidden_no c (g.hostF c hc)).2.1
    · exact (pg.2.2.1 c hc).2
  obtain ⟨hQ, hF⟩ := qf_parts g
  have hP : ∀ c ∈ u.path, (c == 63 || c == 35) = false := fun c hc => inSet3 c (path_chars pp c (by rw [← hpp]; exact hc))
  obtain ⟨e1, e2⟩ := rest_parts u.path _ _ hP hQ hF
  rw [url_clean (validD_vis _ hv) ((clean_vis _ hv).trans (text_def u)) g.sch hA hE (.inr ⟨47, pt ++ ((if u.hasQ then 63 :: u.query else []) ++ (if u.hasF then 35 :: u.frag else [])), by rw [hpp, hpt]; rfl, rfl⟩),
    auth_text d u.user u.pass u.host (portPart u.port) u.port g.user g.pass g.host g.hostF pg.1 pg.2.1]
  dsimp only
  rw [e1, e2]
  have x1 : Web.path u.path = u.path := by rw [hpp, path_again]
  have x2 : (!(if u.hasQ then 63 :: u.query else []).isEmpty) = u.hasQ := by cases u.hasQ <;> rfl
  have x3 : (!(if u.hasF then 35 :: u.frag else []).isEmpty) = u.hasF := by cases u.hasF <;> rfl
  have x4 : Web.enc 2 ((if u.hasQ then 63 :: u.query else []).drop 1) = u.query := by
    cases hq : u.hasQ with
    | false => rw [g.q0 hq]; rfl
    | true => exact enc_same 2 _ g.q
  have x5 : Web.enc 1 ((if u.hasF then 35 :: u.frag else []).drop 1) = u.frag := by
    cases hf : u.hasF with
    | false => rw [g.f0 hf]; rfl
    | true => exact enc_same 1 _ g.f
  rw [x1, x2, x3, x4, x5]
theorem text_len {u : Web.U} {d m : Nat} (g : Good d u) (s : Short m u) : (Web.text u).length ≤ 16 * m + 300 := by
  obtain ⟨_, _, _, _, h0⟩ := port_facts g.sch
  have h1 := userText_len u.user u.pass
  have h2 := (portPart_good g.port).2.2.2
  have hq : (if u.hasQ then 63 :: u.query else []).length ≤ u.query.length + 1 := by split <;> simp
  have hf : (if u.hasF then 35 :: u.frag else []).length ≤ u.frag.length + 1 := by split <;> simp
  have := s.user; have := s.pass; have := s.host; have := s.path; have := s.query; have := s.frag
  rw [text_def]
  simp only [List.length_append, List.length_cons]
  omega
theorem parse_some {l : List UInt8} {u : Web.U} (h : Web.parse l = some u) : Web.url l = some u := by
  unfold Web.parse at h
  split at h
  · cases h
  · exact h
theorem parse_back {l : List UInt8} {u : Web.U} (hl : l.length ≤ 3000) (h : Web.parse l = some u) : Web.parse (Web.text u) = some u ∧ (∃ t, u.path = 47 :: t) ∧ u.host ≠ [] := by
  obtain ⟨d, g, s⟩ := url_good (parse_some h)
  refine ⟨?_, ?_, g.hostN⟩
  · unfold Web.parse
    have := text_len g s
    rw [if_neg (by omega), text_url g]
  · obtain ⟨p, hp⟩ := g.path
    rw [hp]
    exact path_head p
theorem parse_tab (a b : List UInt8) (c : UInt8) (h : Web.tabbed c = true) (ha : Lib.validD a = true) (hl : (a ++ b).length < 65536) : Web.parse (a ++ [c] ++ b) = Web.parse (a ++ b) := by
  have hc : c.toNat < 128 := by
    have key : ∀ n : Nat, n < 256 → Web.tabbed (UInt8.ofNat n) = true → (UInt8.ofNat n).toNat < 128 := by decide +kernel
    exact byte_all (P := fun c => Web.tabbed c = true → c.toNat < 128) key c h
  unfold Web.parse
  have hl2 : (a ++ [c] ++ b).length = (a ++ b).length + 1 := by simp only [List.length_append, List.length_cons, List.length_nil]; omega
  rw [if_neg (by omega), if_neg (by omega)]
  unfold Web.url
  rw [validD_put a b c hc ha, clean_tab a b c h]
theorem parse_around (a l b : List UInt8) (ha : ∀ c ∈ a, Web.blank c = true) (hb : ∀ c ∈ b, Web.blank c = true) (hl : (a ++ l ++ b).length ≤ 65536) : Web.parse (a ++ l ++ b) = Web.parse l := by
  have asc : ∀ (x y : List UInt8), (∀ c ∈ x, Web.blank c = true) → Lib.validD (x ++ y) = Lib.validD y := by
    intro x y hx
    rw [Lib.validD_ascii x.length (x ++ y) (fun c hc => by
      rw [List.take_left] at hc
      have := hx c hc
      unfold Web.blank at this
      have := of_decide_eq_true this
      omega), List.drop_left]
  have hv : Lib.validD (a ++ l ++ b) = Lib.validD l := by
    rw [List.append_assoc, asc a _ ha]
    exact validD_tail l.length l b (Nat.le_refl _) (fun c hc => by
      have := hb c hc
      unfold Web.blank at this
      have := of_decide_eq_true this
      omega)
  have hl2 : (a ++ l ++ b).length = a.length + l.length + b.length := by simp only [List.length_append]
  unfold Web.parse
  rw [if_neg (by omega), if_neg (by omega)]
  unfold Web.url
  rw [hv, clean_around a l b ha hb]
end Go.Proofs.YtcmcopieagpppaaGreatDoor.P
namespace Go.Proofs.YtcmcopieagpppaaGreatDoor.P
open Go.RowKit Go.Proofs.YtcmcopieagpppaaGreatDoorW.PrintWords Go.Proofs.YtcmcopieagpppaaGreatDoorW.PrintLast Go.Proofs.YtcmcopieagpppaaGreatDoorW.PrintMore
set_option linter.unusedVariables false
set_option linter.unusedSimpArgs false
theorem TabsTo {w w1 : World} {g : Nat} (h : Tabs w) (hb : Below g w w1) (hg : 3 ≤ g) : Tabs w1 := by
  obtain ⟨h1, ⟨m, h2⟩, h3⟩ := h
  refine ⟨?_, ⟨m, (hb.cell (p := ⟨2, 0, none⟩) (by show 2 < g; omega)).trans h2⟩, Nat.le_trans h3 hb.size⟩
  exact ⟨fun c hc => (hb.cell (p := ⟨0, c, none⟩) (by show 0 < g; omega)).trans (h1.1 c hc), fun i hi => ⟨(hb.cell (p := ⟨1, 2 * i, none⟩) (by show 1 < g; omega)).trans (h1.2 i hi).1, (hb.cell (p := ⟨1, 2 * i + 1, none⟩) (by show 1 < g; omega)).trans (h1.2 i hi).2⟩⟩
theorem q_yes {R r : List UInt8} {c : UInt8} (h : R = c :: r) (hc : (c == 63) = true) : Web.brk (· == 35) R = (63 :: (Web.brk (· == 35) r).1, (Web.brk (· == 35) r).2) := by
  have e : c = 63 := by simpa using hc
  subst e
  rw [h, brk_cons, if_neg (by decide)]
theorem q_no {R1 R : List UInt8} (hR : R = (Web.brk qf R1).2) (h : ∀ c r, R = c :: r → (c == 63) = false) : Web.brk (· == 35) R = ([], R) := by
  cases R with
  | nil => rfl
  | cons c t =>
    have h1 := h c t rfl
    have h2 := brk_snd_head qf R1 c t hR.symm
    unfold qf at h2
    rw [h1, Bool.false_or] at h2
    rw [brk_cons, if_pos h2]
theorem f_no {R F : List UInt8} (hF : F = (Web.brk (· == 35) R).2) (h : ∀ c r, F = c :: r → (c == 35) = false) : F = [] := by
  cases F with
  | nil => rfl
  | cons c t =>
    have h1 := h c t rfl
    have h2 := brk_snd_head (· == 35) R c t hF.symm
    rw [h1] at h2
    cases h2
theorem slash_stop {R S : List UInt8} (hR : R.dropWhile Web.slash = S) (h : ∀ c r, R = c :: r → Web.slash c = false) : S = R := by
  cases R with
  | nil => exact hR.symm
  | cons c t => rw [← hR, List.dropWhile_cons_of_neg (by rw [h c t rfl]; decide)]
def vStr : Option Value → Nat
  | some (.string x) => x.size
  | _ => 0
set_option maxRecDepth 100000 in
set_option maxHeartbeats 4000000 in
theorem url_parse_walk (s : ByteArray) (w : World) (hT : Tabs w) :
    Calls Tryz.prog 22 #[.string s] w fun e w' => e = .returned (urlR (Web.parse (bs s))) ∧ Below w.heap.size w w' := by
  have HT := Lib.hid hT
  clear hT
  by_cases c1 : 65536 < s.size
  · have c1' : decide (65536 < (s.size : Int)) = true := decide_eq_true (by omega)
    go_enter Tryz.func22, Tryz.ntmps22
    go_wp2_with (first | ((with_reducible refine gate_dst (N := 2) rfl ?_); refine box_event ?hg (N := 2) ?hd (cs := #[.string ⟨#[]⟩, .string ⟨#[]⟩, .string ⟨#[]⟩, .string ⟨#[]⟩, .int .i64 0, .string ⟨#[]⟩, .bool false, .string ⟨#[]⟩, .bool false, .string ⟨#[]⟩]) (t := 24) ?hr ?_; (case hd => rfl); (case hg => rfl); (case hr => first | (go_simp; done) | (go_simp; rfl)); intro g0 hg0 w0 hbox hb0; have Z0 := Lib.hid (FB.new w w0 g0 hbox); have B0 := Lib.hid hb0; have G0 := Lib.hid (show w.heap.size ≤ g0 by omega); clear hbox hb0 hg0; obtain ⟨zc0, zc1, zc2, zc3, zc4, zc5, zc6, zc7, zc8, zc9⟩ := Z0.out.cells; obtain ⟨zf0, zf1, zf2, zf3, zf4, zf5, zf6, zf7, zf8, zf9⟩ := Z0.out.frozens))
    refine bodyPost_ret (results_ct rfl _ _ g0 24 _ (0, 0) _ rfl (Z0.out.put uZ) Tryz.underlying24 rfl (by kernel_rfl)) rfl ⟨?_, put10 B0.out G0.out⟩
    unfold Web.parse
    rw [if_pos (by rw [bs_len]; exact c1)]
    rfl
  · have c1' : decide (65536 < (s.size : Int)) = false := decide_eq_false (by omega)
    have p1 : Web.parse (bs s) = Web.url (bs s) := by
      unfold Web.parse
      rw [if_neg (by rw [bs_len]; exact c1)]
    rw [p1]
    go_enter Tryz.func22, Tryz.ntmps22
    go_wp2_with (first | ((with_reducible refine gate_dst (N := 2) rfl ?_); refine box_event ?hg (N := 2) ?hd (cs := #[.string ⟨#[]⟩, .string ⟨#[]⟩, .string ⟨#[]⟩, .string ⟨#[]⟩, .int .i64 0, .string ⟨#[]⟩, .bool false, .string ⟨#[]⟩, .bool false, .string ⟨#[]⟩]) (t := 24) ?hr ?_; (case hd => rfl); (case hg => rfl); (case hr => first | (go_simp; done) | (go_simp; rfl)); intro g0 hg0 w0 hbox hb0; have Z0 := Lib.hid (FB.new w w0 g0 hbox); have B0 := Lib.hid hb0; have G0 := Lib.hid (show w.heap.size ≤ g0 by omega); clear hbox hb0 hg0; obtain ⟨zc0, zc1, zc2, zc3, zc4, zc5, zc6, zc7, zc8, zc9⟩ := Z0.out.cells; obtain ⟨zf0, zf1, zf2, zf3, zf4, zf5, zf6, zf7, zf8, zf9⟩ := Z0.out.frozens))
    clear zc0 zc1 zc2 zc3 zc4 zc5 zc6 zc7 zc8 zc9 zf0 zf1 zf2 zf3 zf4 zf5 zf6 zf7 zf8 zf9 p1
    refine (pct_utf8_c s _ (by omega) (HT.out.below B0.out).1).mono ?_
    rintro e w1 ⟨rfl, b1⟩
    have Z1 := Lib.hid (Z0.out.below b1)
    have B1 := Lib.hid (below_step B0.out b1)
    have T1 := Lib.hid (HT.out.below B1.out)
    clear Z0 B0 b1 HT
    by_cases c2 : Lib.validD (bs s) = true
    · rw [c2]
      go_wp2_with fail
      refine (trimfunc_c s _ (by omega) T1.out.1).mono ?_
      rintro e w2 ⟨s1, rfl, H1, b2⟩
      have Z2 := Lib.hid (Z1.out.below b2)
      have B2 := Lib.hid (below_step B1.out b2)
      have T2 := Lib.hid (T1.out.below b2)
      have hs1 : s1.size ≤ s.size := by rw [← bs_len, H1.out, ← bs_len s]; exact trim_len _
      clear Z1 B1 T1 b2
      go_wp2_with fail
      have hC := six_cells_new w2 _ rfl
      have b3 := (Below.refl w2.heap.size w2).alloc (Nat.le_refl _) (.cells #[.string ⟨#[9]⟩, .string ⟨#[]⟩, .string ⟨#[10]⟩, .string ⟨#[]⟩, .string ⟨#[13]⟩, .string ⟨#[]⟩] 9 (0, 0))
      have hlt3 : w2.heap.size < (w2.alloc (.cells #[.string ⟨#[9]⟩, .string ⟨#[]⟩, .string ⟨#[10]⟩, .string ⟨#[]⟩, .string ⟨#[13]⟩, .string ⟨#[]⟩] 9 (0, 0))).heap.size := by simp
      generalize w2.alloc (.cells #[.string ⟨#[9]⟩, .string ⟨#[]⟩, .string ⟨#[10]⟩, .string ⟨#[]⟩, .string ⟨#[13]⟩, .string ⟨#[]⟩] 9 (0, 0)) = w3 at hC b3 hlt3 ⊢
      have Z3 := Lib.hid (Z2.out.below b3)
      have B3 := Lib.hid (below_step B2.out b3)
      have T3 := Lib.hid (T2.out.below b3)
      clear Z2 B2 T2 b3
      refine (newReplacer_walk w2.heap.size w3 hlt3 hC).mono ?_
      rintro e w4 ⟨g4, rfl, hg4, HN, b4⟩
      have Z4 := Lib.hid (Z3.out.below b4)
      have B4 := Lib.hid (below_step B3.out b4)
      have T4 := Lib.hid (T3.out.below b4)
      have hwg : w.heap.size ≤ g4 := Nat.le_trans B3.out.size hg4
      have hz4 : g0 < g4 := Nat.lt_of_lt_of_le Z3.out.lt hg4
      have hT34 : 3 ≤ g4 := Nat.le_trans T3.out.2.2 hg4
      clear Z3 B3 T3 b4 hlt3 hC
      go_wp2_with fail
      refine (replace_walk g4 s1 _ w3.heap.size HN.out (by omega)).mono ?_
      rintro e w5 ⟨r2, rfl, H5, b5⟩
      have Z5 := Lib.hid (show FB w5 g0 uZ from (b5.block g0 hz4).trans Z4.out)
      have B5 := Lib.hid (below_weaken B4.out hwg b5)
      have e5 : bs r2 = Web.clean (bs s) := by rw [H5.out, H1.out]; rfl
      have E5 := Lib.hid e5
      have hs2 : r2.size ≤ s.size := by rw [← bs_len, e5, ← bs_len s]; exact clean_len _
      have T5 := Lib.hid (TabsTo T4.out b5 hT34)
      clear Z4 B4 T4 b5 H5 H1 HN e5 hg4 hwg hz4 hT34
      go_wp2_with fail
      have hbx := heap_alloc_new w5 (.cells #[.string r2, .string ⟨#[]⟩, .string ⟨#[]⟩, .string ⟨#[]⟩, .string ⟨#[]⟩, .int .i64 0, .string ⟨#[]⟩, .bool false, .string ⟨#[]⟩, .bool false, .string ⟨#[]⟩] 76 (0, 0))
      have R6 : RB (w5.alloc (.cells #[.string r2, .string ⟨#[]⟩, .string ⟨#[]⟩, .string ⟨#[]⟩, .string ⟨#[]⟩, .int .i64 0, .string ⟨#[]⟩, .bool false, .string ⟨#[]⟩, .bool false, .string ⟨#[]⟩] 76 (0, 0))) w5.heap.size r2 uZ := hbx
      have b6 := below_alloc (Below.refl w5.heap.size w5) (.cells #[.string r2, .string ⟨#[]⟩, .string ⟨#[]⟩, .string ⟨#[]⟩, .string ⟨#[]⟩, .int .i64 0, .string ⟨#[]⟩, .bool false, .string ⟨#[]⟩, .bool false, .string ⟨#[]⟩] 76 (0, 0))
      have hg05 := Z5.out.lt
      have hw5 := B5.out.size
      have h35 := T5.out.2.2
      clear hbx
      generalize w5.alloc (.cells #[.string r2, .string ⟨#[]⟩, .string ⟨#[]⟩, .string ⟨#[]⟩, .string ⟨#[]⟩, .int .i64 0, .string ⟨#[]⟩, .bool false, .string ⟨#[]⟩, .bool false, .string ⟨#[]⟩] 76 (0, 0)) = w6 at R6 b6 ⊢
      have RB6 := Lib.hid R6
      have Z6 := Lib.hid (Z5.out.below b6)
      have B6 := Lib.hid (below_step B5.out b6)
      have T6 := Lib.hid (T5.out.below b6)
      clear R6 Z5 B5 T5 b6
      generalize w5.heap.size = g5 at RB6 hg05 hw5 h35 ⊢
      have step : ∀ wa wb : World, Hid (FB wa g0 uZ) → Hid (Below w.heap.size w wa) → Hid (Tabs wa) → Below g5 wa wb → Hid (FB wb g0 uZ) ∧ Hid (Below w.heap.size w wb) ∧ Hid (Tabs wb) := fun _ _ z b t h => ⟨Lib.hid ((h.block g0 hg05).trans z.out), Lib.hid (below_weaken b.out hw5 h), Lib.hid (TabsTo t.out h h35)⟩
      have STEP := Lib.hid step
      clear step
      refine (scheme_walk g5 r2 uZ _ (by omega) RB6.out).mono ?_
      rintro e w7 ⟨b, rfl, b7, HS⟩
      obtain ⟨Z7, B7, T7⟩ := STEP.out _ _ Z6 B6 T6 b7
      clear Z6 B6 T6 b7 RB6
      rcases HS.out with ⟨rfl, d, r3, hp, hb, hr⟩ | ⟨rfl, hno⟩
      · rw [E5.out] at hp hb hr
        have HR := Lib.hid (url_rest (r := bs r3) c2 (Prod.ext rfl hb) hp)
        have HP := Lib.hid (show (portP (Web.lowerL (Web.brk (· == 58) (Web.clean (bs s))).1)).1 = (d : Int) by unfold portP; rw [hp])
        have hs3 : r3.size ≤ s.size := by
          have h1 := brk_snd_len (· == 58) (Web.clean (bs s))
          have h2 := clean_len (bs s)
          rw [hb, List.length_cons, bs_len] at h1
          rw [bs_len] at h2
          omega
        obtain ⟨sch, hsch⟩ : ∃ x, Web.lowerL (Web.brk (· == 58) (Web.clean (bs s))).1 = x := ⟨_, rfl⟩
        rw [hsch] at HR HP hr
        have RB7 := Lib.hid hr
        clear hp hb hr hsch HS
        go_wp2_with fail
        go_loopw [31] (fun v31 wr => ∃ x : ByteArray, Hid (RB wr g5 x { uZ with scheme := sch }) ∧ Hid ((bs x).dropWhile Web.slash = (bs r3).dropWhile Web.slash) ∧ x.size ≤ r3.size ∧ Hid (FB wr g0 uZ) ∧ Hid (Below w.heap.size w wr) ∧ Hid (Tabs wr)) (fun _ wr => vStr (wr.cell? ⟨g5, 0, none⟩))
        case atStart => exact ⟨r3, RB7, Lib.hid rfl, Nat.le_refl _, Z7, B7, T7⟩
        case round =>
          obtain ⟨x, RB8, HX, hx, Z8, B8, T8⟩ := hrel
          go_wp2_with fail
          refine (pass_walk g5 x [47, 92] Web.slash isSlash2 _ _ (by omega) RB8.out).mono ?_
          rintro e w9 ⟨b, rfl, b9, HQ⟩
          obtain ⟨Z9, B9, T9⟩ := STEP.out _ _ Z8 B8 T8 b9
          have C8 := Lib.hid RB8.out.c0
          clear Z8 B8 T8 b9 RB8
          rcases HQ.out with ⟨rfl, c, r, hc, hq, hr⟩ | ⟨rfl, hc, hr⟩
          · have RB9 := Lib.hid hr
            have hrx : r.size + 1 = x.size := by
              have := congrArg List.length hc
              rw [bs_len, List.length_cons, bs_len] at this
              omega
            have HX9 := Lib.hid (show (bs r).dropWhile Web.slash = (bs r3).dropWhile Web.slash by rw [← HX.out, hc, List.dropWhile_cons_of_pos hq])
            clear hc hq hr HQ HX
            go_wp2_with fail
            go_roundw
            case rel => exact ⟨r, RB9, HX9, by omega, Z9, B9, T9⟩
            case measure => rw [C8.out, RB9.out.c0]; show r.size < x.size; omega
          · have RB9 := Lib.hid hr
            have HX9 := Lib.hid (slash_stop HX.out hc)
            clear hc hr HQ HX C8
            go_wp2_with fail
            refine (authority_walk g5 d x { uZ with scheme := sch } _ (by omega) HP.out ⟨rfl, rfl⟩ RB9.out).mono ?_
            rintro e w10 ⟨b, rfl, b10, HA⟩
            obtain ⟨Z10, B10, T10⟩ := STEP.out _ _ Z9 B9 T9 b10
            clear Z9 B9 T9 b10 RB9
            rcases HA.out with ⟨rfl, us, ps, ho, pn, r4, ha, hr4, hrb⟩ | ⟨rfl, ha⟩
            · have RB10 := Lib.hid hrb
              have HA4 := Lib.hid ha
              have HR4 := Lib.hid hr4
              have hs4 : r4.size ≤ x.size := by rw [← bs_len, hr4, ← bs_len x]; exact brk_snd_len _ _
              have HH := Lib.hid (show HeadEnds (bs r4) by rw [hr4]; exact headEnds_brk (bs x))
              clear ha hr4 hrb HA
              go_wp2_with fail
              refine (path_walk g5 r4 _ _ (by omega) RB10.out h35 T10.out.2.1 HH.out).mono ?_
              rintro e w11 ⟨⟨v, rfl⟩, b11, r5, HP5⟩
              obtain ⟨Z11, B11, T11⟩ := STEP.out _ _ Z10 B10 T10 b11
              have RB11 := Lib.hid HP5.out.2
              have H5 := Lib.hid HP5.out.1
              have hs5 : r5.size ≤ r4.size := by rw [← bs_len, H5.out, ← bs_len r4]; exact brk_snd_len _ _
              clear Z10 B10 T10 b11 RB10 HP5 HH
              go_wp2_with fail
              refine (pass_walk g5 r5 [63] (· == 63) is63 _ _ (by omega) RB11.out).mono ?_
              rintro e w12 ⟨b, rfl, b12, HQ⟩
              obtain ⟨Z12, B12, T12⟩ := STEP.out _ _ Z11 B11 T11 b12
              clear Z11 B11 T11 b12 RB11
              have hq6 : ∃ r6 : ByteArray, RB w12 g5 r6 ⟨sch, us, ps, ho, pn, Web.path (Web.brk qf (bs r4)).1, false, [], false, []⟩ ∧ r6.size ≤ r5.size ∧ ((b = true ∧ ∃ c, bs r5 = c :: bs r6 ∧ (c == 63) = true) ∨ (b = false ∧ r6 = r5 ∧ ∀ c r, bs r5 = c :: r → (c == 63) = false)) := by
                rcases HQ.out with ⟨hb, c, r, hc, hq, hr⟩ | ⟨hb, hc, hr⟩
                · refine ⟨r, hr, ?_, .inl ⟨hb, c, hc, hq⟩⟩
                  have := congrArg List.length hc
                  rw [bs_len, List.length_cons, bs_len] at this
                  omega
                · exact ⟨r5, hr, Nat.le_refl _, .inr ⟨hb, rfl, hc⟩⟩
              obtain ⟨r6, hr6, hs6, hq6⟩ := hq6
              have q7 := hr6.c7
              have f7 := hr6.f 7
              have RB13 := Lib.hid (hr6.set7 b)
              have q7b := RB13.out.c7
              have HQ6 := Lib.hid hq6
              obtain ⟨Z13, B13, T13⟩ := STEP.out _ _ Z12 B12 T12 ((Below.refl g5 w12).setCell (p := ⟨g5, 7, none⟩) (Nat.le_refl _) (.bool b))
              clear HQ hq6 hr6 Z12 B12 T12
              go_upto_if 50 with (fail)
              clear q7 f7 q7b
              generalize w12.setCell ⟨g5, 7, none⟩ (.bool b) = w13 at RB13 Z13 B13 T13 ⊢
              go_cut [55] (fun _ wc => ∃ r7 : ByteArray, Hid (RB wc g5 r7 ⟨sch, us, ps, ho, pn, Web.path (Web.brk qf (bs r4)).1, !(Web.brk (· == 35) (bs r5)).1.isEmpty, Web.enc 2 ((Web.brk (· == 35) (bs r5)).1.drop 1), false, []⟩) ∧ Hid (bs r7 = (Web.brk (· == 35) (bs r5)).2) ∧ r7.size ≤ r5.size ∧ Hid (FB wc g0 uZ) ∧ Hid (Below w.heap.size w wc) ∧ Hid (Tabs wc))
              case first =>
                rcases HQ6.out with ⟨rfl, c, hc, hq⟩ | ⟨rfl, rfl, hc⟩
                · have HY := Lib.hid (q_yes hc hq)
                  clear hc hq HQ6
                  go_wp2_with fail
                  refine (upTo_walk g5 r6 [35] (· == 35) is35 _ _ (by omega) RB13.out).mono ?_
                  rintro e w14 ⟨a, r7, rfl, HA7, b14, RB14⟩
                  obtain ⟨Z14, B14, T14⟩ := STEP.out _ _ Z13 B13 T13 b14
                  clear Z13 B13 T13 b14 RB13
                  have ha7 : a.size ≤ r6.size := by rw [← bs_len, HA7.out.1, ← bs_len r6]; exact brk_fst_len _ _
                  have hr7 : r7.size ≤ r6.size := by rw [← bs_len, HA7.out.2, ← bs_len r6]; exact brk_snd_len _ _
                  go_wp2_with fail
                  refine (pencode_c a 2 _ (by omega) (by decide)).mono ?_
                  rintro e w15 ⟨q, rfl, HE, hqs, b15⟩
                  have RB15 := Lib.hid (RB14.out.below b15)
                  have Z15 := Lib.hid (Z14.out.below b15)
                  have B15 := Lib.hid (below_step B14.out b15)
                  have T15 := Lib.hid (T14.out.below b15)
                  clear Z14 B14 T14 b15 RB14
                  have q8 := RB15.out.c8
                  have f8 := RB15.out.f 8
                  have RB16 := Lib.hid (RB15.out.set8 (bs q))
                  obtain ⟨Z16, B16, T16⟩ := STEP.out _ _ Z15 B15 T15 ((Below.refl g5 w15).setCell (p := ⟨g5, 8, none⟩) (Nat.le_refl _) (.string q))
                  clear Z15 B15 T15 RB15
                  go_wp2_with fail
                  go_meet
                  case rel =>
                    refine ⟨r7, Lib.hid ?_, Lib.hid ?_, by omega, Z16, B16, T16⟩
                    · have e9 : bs q = Web.enc 2 (List.drop 1 (63 :: (Web.brk (· == 35) (bs r6)).1)) := by rw [HE.out, HA7.out.1]; rfl
                      rw [HY.out]
                      dsimp only
                      rw [← e9]
                      exact RB16.out
                    · rw [HY.out, HA7.out.2]
                · have HY := Lib.hid (q_no H5.out hc)
                  clear hc HQ6
                  go_wp2_with fail
                  go_meet
                  case rel =>
                    refine ⟨r6, Lib.hid ?_, Lib.hid ?_, Nat.le_refl _, Z13, B13, T13⟩
                    · rw [HY.out]; exact RB13.out
                    · rw [HY.out]
              case rest =>
                obtain ⟨r7, RB17, H7, hs7, Z17, B17, T17⟩ := hcut
                clear RB13 Z13 B13 T13 HQ6
                obtain ⟨uq, huq⟩ : ∃ x : Web.U, x = ⟨sch, us, ps, ho, pn, Web.path (Web.brk qf (bs r4)).1, !(Web.brk (· == 35) (bs r5)).1.isEmpty, Web.enc 2 ((Web.brk (· == 35) (bs r5)).1.drop 1), false, []⟩ := ⟨_, rfl⟩
                rw [← huq] at RB17
                have HUQ := Lib.hid huq
                clear huq
                go_wp2_with fail
                refine (pass_walk g5 r7 [35] (· == 35) is35 _ _ (by omega) RB17.out).mono ?_
                rintro e w18 ⟨b, rfl, b18, HQ⟩
                obtain ⟨Z18, B18, T18⟩ := STEP.out _ _ Z17 B17 T17 b18
                clear Z17 B17 T17 b18 RB17
                have hq8 : ∃ r8 : ByteArray, RB w18 g5 r8 uq ∧ r8.size ≤ r7.size ∧ ((b = true ∧ ∃ c, bs r7 = c :: bs r8 ∧ (c == 35) = true) ∨ (b = false ∧ ∀ c r, bs r7 = c :: r → (c == 35) = false)) := by
                  rcases HQ.out with ⟨hb, c, r, hc, hq, hr⟩ | ⟨hb, hc, hr⟩
                  · refine ⟨r, hr, ?_, .inl ⟨hb, c, hc, hq⟩⟩
                    have := congrArg List.length hc
                    rw [bs_len, List.length_cons, bs_len] at this
                    omega
                  · exact ⟨r7, hr, Nat.le_refl _, .inr ⟨hb, hc⟩⟩
                obtain ⟨r8, hr8, hs8, hq8⟩ := hq8
                have q9 := hr8.c9
                have f9 := hr8.f 9
                have RB19 := Lib.hid (hr8.set9 b)
                have q9b := RB19.out.c9
                have HQ8 := Lib.hid hq8
                obtain ⟨Z19, B19, T19⟩ := STEP.out _ _ Z18 B18 T18 ((Below.refl g5 w18).setCell (p := ⟨g5, 9, none⟩) (Nat.le_refl _) (.bool b))
                clear HQ hq8 hr8 Z18 B18 T18
                go_upto_if 72 with (fail)
                clear q9 f9 q9b
                generalize w18.setCell ⟨g5, 9, none⟩ (.bool b) = w19 at RB19 Z19 B19 T19 ⊢
                go_cut [78] (fun _ wc => ∃ r9 : ByteArray, Hid (RB wc g5 r9 ⟨sch, us, ps, ho, pn, Web.path (Web.brk qf (bs r4)).1, !(Web.brk (· == 35) (bs r5)).1.isEmpty, Web.enc 2 ((Web.brk (· == 35) (bs r5)).1.drop 1), !(Web.brk (· == 35) (bs r5)).2.isEmpty, Web.enc 1 ((Web.brk (· == 35) (bs r5)).2.drop 1)⟩) ∧ Hid (FB wc g0 uZ) ∧ Hid (Below w.heap.size w wc))
                case first =>
                  rcases HQ8.out with ⟨rfl, c, hc, hq⟩ | ⟨rfl, hc⟩
                  · have HY := Lib.hid (show (Web.brk (· == 35) (bs r5)).2 = 35 :: bs r8 by
                      have e : c = 35 := by simpa using hq
                      rw [← H7.out, hc, e])
                    clear hc hq HQ8
                    have q0 := RB19.out.c0
                    go_wp2_with fail
                    refine (pencode_c r8 1 _ (by omega) (by decide)).mono ?_
                    rintro e w20 ⟨f, rfl, HE, hfs, b20⟩
                    have RB20 := Lib.hid (RB19.out.below b20)
                    have Z20 := Lib.hid (Z19.out.below b20)
                    have B20 := Lib.hid (below_step B19.out b20)
                    have T20 := Lib.hid (T19.out.below b20)
                    clear Z19 B19 T19 b20 RB19 q0
                    have q10 := RB20.out.c10
                    have f10 := RB20.out.f 10
                    have RB21 := Lib.hid (RB20.out.set10 (bs f))
                    obtain ⟨Z21, B21, T21⟩ := STEP.out _ _ Z20 B20 T20 ((Below.refl g5 w20).setCell (p := ⟨g5, 10, none⟩) (Nat.le_refl _) (.string f))
                    clear Z20 B20 T20 RB20
                    go_wp2_with fail
                    go_meet
                    case rel =>
                      refine ⟨r8, Lib.hid ?_, Z21, B21⟩
                      have e9 : bs f = Web.enc 1 (List.drop 1 (35 :: bs r8)) := by rw [HE.out]; rfl
                      rw [HY.out, ← e9]
                      have := RB21.out
                      rw [HUQ.out] at this
                      exact this
                  · have HY := Lib.hid (show (Web.brk (· == 35) (bs r5)).2 = [] from f_no rfl (by rw [← H7.out]; exact hc))
                    clear hc HQ8
                    go_wp2_with fail
                    go_meet
                    case rel =>
                      refine ⟨r8, Lib.hid ?_, Z19, B19⟩
                      have := RB19.out
                      rw [HUQ.out] at this
                      rw [HY.out]
                      exact this
                case rest =>
                  obtain ⟨r9, RB22, Z22, B22⟩ := hcut
                  clear RB19 Z19 B19 T19 HQ8
                  obtain ⟨uu, huu⟩ : ∃ x : Web.U, x = ⟨sch, us, ps, ho, pn, Web.path (Web.brk qf (bs r4)).1, !(Web.brk (· == 35) (bs r5)).1.isEmpty, Web.enc 2 ((Web.brk (· == 35) (bs r5)).1.drop 1), !(Web.brk (· == 35) (bs r5)).2.isEmpty, Web.enc 1 ((Web.brk (· == 35) (bs r5)).2.drop 1)⟩ := ⟨_, rfl⟩
                  rw [← huu] at RB22
                  have HUU := Lib.hid huu
                  clear huu
                  obtain ⟨zc0, zc1, zc2, zc3, zc4, zc5, zc6, zc7, zc8, zc9⟩ := Z22.out.cells
                  obtain ⟨zf0, zf1, zf2, zf3, zf4, zf5, zf6, zf7, zf8, zf9⟩ := Z22.out.frozens
                  have uc1 := RB22.out.c1; have uc2 := RB22.out.c2; have uc3 := RB22.out.c3; have uc4 := RB22.out.c4; have uc5 := RB22.out.c5
                  have uc6 := RB22.out.c6; have uc7 := RB22.out.c7; have uc8 := RB22.out.c8; have uc9 := RB22.out.c9; have uc10 := RB22.out.c10
                  go_wp2_with fail
                  refine bodyPost_ret (results_ct rfl _ _ g0 24 _ (0, 0) _ rfl (Z22.out.put uu) Tryz.underlying24 rfl (by kernel_rfl)) rfl ⟨?_, put10 B22.out G0.out⟩
                  have fin : Web.url (bs s) = some uu := by
                    rw [HR.out, HUU.out]
                    refine urlRest_some (h := ho) (n := pn) (u := us) (p := ps) ?_ ?_ ?_
                    · rw [HX9.out]
                      unfold authIs
                      rw [HA4.out]
                      exact ⟨rfl, rfl⟩
                    · rw [HX9.out, ← HR4.out]; rfl
                    · rw [HX9.out, ← HR4.out]
                      have e := H5.out
                      unfold qf at e
                      rw [← e]
                  rw [fin]
                  rfl
            · have HN := Lib.hid (show Web.url (bs s) = none by rw [HR.out]; unfold urlRest; rw [HX9.out, ha])
              clear ha HA HX9 HR
              obtain ⟨zc0, zc1, zc2, zc3, zc4, zc5, zc6, zc7, zc8, zc9⟩ := Z10.out.cells
              obtain ⟨zf0, zf1, zf2, zf3, zf4, zf5, zf6, zf7, zf8, zf9⟩ := Z10.out.frozens
              go_wp2_with fail
              refine bodyPost_ret (results_ct rfl _ _ g0 24 _ (0, 0) _ rfl (Z10.out.put uZ) Tryz.underlying24 rfl (by kernel_rfl)) rfl ⟨?_, put10 B10.out G0.out⟩
              rw [HN.out]
              rfl
      · rw [E5.out] at hno
        have HN := Lib.hid (url_none hno)
        clear hno HS
        obtain ⟨zc0, zc1, zc2, zc3, zc4, zc5, zc6, zc7, zc8, zc9⟩ := Z7.out.cells
        obtain ⟨zf0, zf1, zf2, zf3, zf4, zf5, zf6, zf7, zf8, zf9⟩ := Z7.out.frozens
        go_wp2_with fail
        refine bodyPost_ret (results_ct rfl _ _ g0 24 _ (0, 0) _ rfl (Z7.out.put uZ) Tryz.underlying24 rfl (by kernel_rfl)) rfl ⟨?_, put10 B7.out G0.out⟩
        rw [HN.out]
        rfl
    · have c2' := Bool.eq_false_iff.2 c2
      obtain ⟨zc0, zc1, zc2, zc3, zc4, zc5, zc6, zc7, zc8, zc9⟩ := Z1.out.cells
      obtain ⟨zf0, zf1, zf2, zf3, zf4, zf5, zf6, zf7, zf8, zf9⟩ := Z1.out.frozens
      rw [c2']
      go_wp2_with fail
      refine bodyPost_ret (results_ct rfl _ _ g0 24 _ (0, 0) _ rfl (Z1.out.put uZ) Tryz.underlying24 rfl (by kernel_rfl)) rfl ⟨?_, put10 B1.out G0.out⟩
      unfold Web.url
      rw [c2']
      rfl
end Go.Proofs.YtcmcopieagpppaaGreatDoor.P
namespace Go.Proofs.YtcmcopieagpppaaGreatDoor.P
set_option linter.unusedVariables false
set_option linter.unusedSimpArgs false
structure O where
  scheme : List UInt8
  host : List UInt8
  port : Int
deriving DecidableEq
def O.zero : O := ⟨[], [], 0⟩
def portU (u : Web.U) : Int := if u.port = -1 then (portP u.scheme).1 else u.port
theorem portP_some {s : List UInt8} {d : Nat} (h : Web.port? s = some d) : portP s = ((d : Int), true) := by unfold portP; rw [h]
end Go.Proofs.YtcmcopieagpppaaGreatDoor.P
namespace Go.Proofs.YtcmcopieagpppaaGreatDoor.P
set_option linter.unusedVariables false
set_option linter.unusedSimpArgs false
def awT : List UInt8 := [72, 84, 84, 80, 83, 58, 92, 92, 69, 120, 46, 99, 111, 109, 58, 52, 52, 51, 92, 97, 92, 46, 46, 92, 98, 63, 113, 35, 102]
def awU : Web.U := ⟨[104, 116, 116, 112, 115], [], [], [101, 120, 46, 99, 111, 109], -1, [47, 98], true, [113], true, [102]⟩
theorem aw_parse : Web.parse awT = some awU := by decide +kernel
def pc (k : Nat) : List UInt8 := if k = 1 then [46] else if k = 2 then [37, 50, 69, 46] else [120]
def dotTail (ks : List Nat) : List UInt8 := ks.flatMap fun k => 47 :: pc k
def dotText (ks : List Nat) : List UInt8 := [104, 116, 116, 112, 58, 47, 47, 97] ++ dotTail ks
def stepN (n k : Nat) : Nat := if k = 1 then n else if k = 2 then n - 1 else n + 1
def wantN (ks : List Nat) : Nat := ks.foldl stepN 0
def lastX (ks : List Nat) : Bool := match ks.getLast? with
  | some k => decide (k ≠ 1 ∧ k ≠ 2)
  | none => false
def xs (n : Nat) : List (List UInt8) := List.replicate n [120]
def dotPath (ks : List Nat) : List UInt8 := ((xs (wantN ks)).flatMap fun s => 47 :: s) ++ (if lastX ks then [] else [47])
theorem pc_cases (k : Nat) : (k = 1 ∧ pc k = [46]) ∨ (k = 2 ∧ pc k = [37, 50, 69, 46]) ∨ ((k ≠ 1 ∧ k ≠ 2) ∧ pc k = [120]) := by
  unfold pc
  by_cases h1 : k = 1
  · exact .inl ⟨h1, if_pos h1⟩
  · by_cases h2 : k = 2
    · exact .inr (.inl ⟨h2, by rw [if_neg h1, if_pos h2]⟩)
    · exact .inr (.inr ⟨⟨h1, h2⟩, by rw [if_neg h1, if_neg h2]⟩)
theorem seg_pc (n k : Nat) (last : Bool) : Web.seg (xs n) (pc k) last = xs (stepN n k) ++ (if last ∧ (k = 1 ∨ k = 2) then [[]] else []) := by
  have hx : ∀ m, xs m ++ [[120]] = xs (m + 1) := fun m => by unfold xs; rw [List.replicate_succ']
  have d1 : Web.dots [46] = 1 := by decide
  have d2 : Web.dots [37, 50, 69, 46] = 2 := by decide
  have d0 : Web.dots [120] = 0 := by decide
  have e0 : Web.enc 3 [120] = [120] := by decide
  unfold Web.seg stepN
  rcases pc_cases k with ⟨hk, e⟩ | ⟨hk, e⟩ | ⟨⟨hk1, hk2⟩, e⟩
  · rw [e, d1]
    cases last <;> simp [hk]
  · rw [e, d2]
    have hdl : (xs n).dropLast = xs (n - 1) := by
      unfold xs
      rw [List.dropLast_replicate]
    cases last <;> simp [hk, hdl]
  · rw [e, d0, e0]
    simp [hk1, hk2, hx]
theorem lastX_more (k : Nat) (k2 : Nat) (r : List Nat) : lastX (k :: k2 :: r) = lastX (k2 :: r) := by
  unfold lastX
  rw [List.getLast?_cons_cons]
theorem segs_pc : ∀ (ks : List Nat) (n : Nat), ks ≠ [] → Web.segs (xs n) (ks.map pc) = xs (ks.foldl stepN n) ++ (if lastX ks then [] else [[]])
  | [], _, h => absurd rfl h
  | [k], n, _ => by
    show Web.segs (xs n) [pc k] = _
    rw [segs_one, seg_pc]
    unfold lastX
    rcases pc_cases k with ⟨hk, _⟩ | ⟨hk, _⟩ | ⟨⟨hk1, hk2⟩, _⟩ <;> simp [*]
  | k :: k2 :: r, n, _ => by
    have ih := segs_pc (k2 :: r) (stepN n k) (by simp)
    show Web.segs (xs n) (pc k :: (k2 :: r).map pc) = _
    rw [segs_more _ _ _ (by simp), seg_pc, lastX_more]
    simp only [Bool.false_eq_true, false_and, if_false, List.append_nil]
    exact ih
theorem wantN_pos : ∀ (ks : List Nat) (n : Nat), lastX ks = true → ks.foldl stepN n ≠ 0
  | [], _, h => by cases h
  | [k], n, h => by
    unfold lastX at h
    simp at h
    show stepN n k ≠ 0
    unfold stepN
    rw [if_neg h.1, if_neg h.2]
    omega
  | k :: k2 :: r, n, h => wantN_pos (k2 :: r) (stepN n k) (by rw [← lastX_more k]; exact h)
theorem pc_chars (k : Nat) : ∀ c ∈ pc k, vis c ∧ Web.slash c = false ∧ (c == 63 || c == 35) = false := by
  unfold vis
  rcases pc_cases k with ⟨_, e⟩ | ⟨_, e⟩ | ⟨_, e⟩ <;> (rw [e]; decide)
theorem dot_path (ks : List Nat) : Web.path (dotTail ks) = dotPath ks := by
  by_cases h0 : ks = []
  · subst h0; rfl
  · have hj : dotTail ks = (ks.map pc).flatMap fun s => 47 :: s := by unfold dotTail; rw [List.flatMap_map]
    have hs : ∀ s ∈ ks.map pc, ∀ c ∈ s, Web.slash c = false := by
      intro s hs c hc
      obtain ⟨k, _, rfl⟩ := List.mem_map.1 hs
      exact (pc_chars k c hc).2.1
    have hne : dotTail ks ≠ [] := by
      cases ks with
      | nil => exact absurd rfl h0
      | cons k r => unfold dotTail; rw [List.flatMap_cons]; simp
    unfold Web.path Web.segsOf
    rw [if_neg hne, hj, split_join _ hs, List.tail_cons]
    have := segs_pc ks 0 h0
    rw [show xs 0 = [] from rfl] at this
    rw [this]
    unfold Web.joinSegs dotPath wantN
    cases hl : lastX ks with
    | true =>
      have hp := wantN_pos ks 0 hl
      rw [if_pos rfl, if_pos rfl, List.append_nil, List.append_nil, if_neg]
      unfold xs
      simpa using hp
    | false =>
      rw [if_neg (by simp), if_neg (by decide), if_neg (by decide), List.flatMap_append]
      rfl
theorem dotTail_chars (ks : List Nat) : ∀ c ∈ dotTail ks, vis c ∧ (c == 63 || c == 35) = false := by
  intro c hc
  unfold dotTail at hc
  obtain ⟨k, _, hc⟩ := List.mem_flatMap.1 hc
  rcases List.mem_cons.1 hc with rfl | hc
  · exact ⟨by unfold vis; decide, rfl⟩
  · exact ⟨(pc_chars k c hc).1, (pc_chars k c hc).2.2⟩
theorem dotTail_len : ∀ ks : List Nat, (dotTail ks).length ≤ 5 * ks.length
  | [] => by simp [dotTail]
  | k :: r => by
    have ih := dotTail_len r
    have hp : (pc k).length ≤ 4 := by rcases pc_cases k with ⟨_, e⟩ | ⟨_, e⟩ | ⟨_, e⟩ <;> (rw [e]; decide)
    have e : dotTail (k :: r) = 47 :: pc k ++ dotTail r := by unfold dotTail; rw [List.flatMap_cons]
    rw [e, List.length_append, List.length_cons, List.length_cons]
    omega
theorem aw_auth : Web.auth 80 [97] = some ([], [], [97], -1) := by decide +kernel
theorem dots_parse (ks : List Nat) (hl : ks.length ≤ 1000) : ∃ u, Web.parse (dotText ks) = some u ∧ u.path = dotPath ks := by
  have hc : ∀ c ∈ dotText ks, vis c := by
    intro c hc
    unfold dotText at hc
    have key : ∀ c ∈ ([104, 116, 116, 112, 58, 47, 47, 97] : List UInt8), vis c := by unfold vis; decide
    rcases List.mem_append.1 hc with hc | hc
    · exact key c hc
    · exact (dotTail_chars ks c hc).1
  have hR : dotTail ks = [] ∨ ∃ c t, dotTail ks = c :: t ∧ Web.ends c = true := by
    cases ks with
    | nil => exact .inl rfl
    | cons k r => exact .inr ⟨47, pc k ++ dotTail r, by unfold dotTail; rw [List.flatMap_cons]; rfl, rfl⟩
  have hb : Web.brk (fun c => c == 63 || c == 35) (dotTail ks) = (dotTail ks, []) := brk_all _ _ (fun c hc => (dotTail_chars ks c hc).2)
  have hlen := dotTail_len ks
  have hu := url_clean (l := dotText ks) (s := [104, 116, 116, 112]) (A := [97]) (R := dotTail ks) (d := 80) (validD_vis _ hc) (clean_vis _ hc) rfl (by simp) (by decide) hR
  rw [aw_auth] at hu
  unfold Web.parse
  rw [if_neg (by unfold dotText; rw [List.length_append]; simp only [List.length_cons, List.length_nil]; omega), hu]
  refine ⟨_, rfl, ?_⟩
  dsimp only
  rw [hb]
  exact dot_path ks
def schT (sec : Bool) : List UInt8 := if sec then [104, 116, 116, 112, 115] else [104, 116, 116, 112]
def schD (sec : Bool) : Nat := if sec then 443 else 80
def uT (b : Bool) (c : UInt8) : List UInt8 := if b then [c] else []
def qT (b : Bool) (l : List UInt8) : List UInt8 := if b then l else []
def partsA (us : Bool) (n : Nat) : List UInt8 := userText (uT us 117) (uT us 112) ++ ([104, 46, 120] ++ (58 :: 48 :: 48 :: Web.decimal n))
def partsT (sec us q f : Bool) (n : Nat) : List UInt8 := schT sec ++ 58 :: (47 :: 47 :: (partsA us n ++ ([47, 97] ++ (qT q [63, 113] ++ qT f [35, 102]))))
def partsU (sec us q f : Bool) (n : Nat) : Web.U := ⟨schT sec, uT us 117, uT us 112, [104, 46, 120], if n = schD sec then -1 else (n : Int), [47, 97], q, uT q 113, f, uT f 102⟩
theorem port_00 (d n : Nat) : Web.portOf d (48 :: 48 :: Web.decimal n) = if 65535 < n then none else if n = d then some (-1) else some (n : Int) := by
  obtain ⟨k1, _, k3, k4, _⟩ := decimal_spec n
  have h1 : Web.allDig 10 (48 :: 48 :: Web.decimal n) = true := by
    unfold Web.allDig at k3 ⊢
    rw [List.all_cons, List.all_cons, k3]
    decide
  have h2 : Web.value 10 (48 :: 48 :: Web.decimal n) = n := by
    exact k4
  unfold Web.portOf
  rw [if_neg (by simp), h1, if_neg (by decide), h2]
theorem auth_parts (sec us : Bool) (n : Nat) : Web.auth (schD sec) (partsA us n) = if 65535 < n then none else some (uT us 117, uT us 112, [104, 46, 120], if n = schD sec then -1 else (n : Int)) := by
  have hh : Web.host [104, 46, 120] = some [104, 46, 120] := by decide +kernel
  have hu : ∀ c ∈ uT us 117, Web.inSet 4 c = false := by cases us <;> decide
  have hp : ∀ c ∈ uT us 112, Web.inSet 4 c = false := by cases us <;> decide
  have hf : ∀ c ∈ ([104, 46, 120] : List UInt8), Web.forbidden c = false := by decide
  have hpt : ∀ c ∈ (48 :: 48 :: Web.decimal n : List UInt8), c ≠ 64 := by
    intro c hc
    rcases List.mem_cons.1 hc with rfl | hc
    · decide
    · rcases List.mem_cons.1 hc with rfl | hc
      · decide
      · exact (decimal_vis n c hc).2.2
  have hpo := port_00 (schD sec) n
  by_cases h : 65535 < n
  · rw [if_pos h] at hpo ⊢
    have hno : ∀ c ∈ ([104, 46, 120] ++ (58 :: 48 :: 48 :: Web.decimal n) : List UInt8), c ≠ 64 := by
      intro c hc
      have key : ∀ c ∈ ([104, 46, 120] : List UInt8), c ≠ 64 := by decide
      rcases List.mem_append.1 hc with hc | hc
      · exact key c hc
      · rcases List.mem_cons.1 hc with rfl | hc
        · decide
        · exact hpt c hc
    have hb := host_port [104, 46, 120] (58 :: 48 :: 48 :: Web.decimal n) hf (.inr ⟨_, rfl⟩)
    unfold partsA
    rw [auth_def]
    have huh : (Web.userHost (userText (uT us 117) (uT us 112) ++ ([104, 46, 120] ++ 58 :: 48 :: 48 :: Web.decimal n))).2 = [104, 46, 120] ++ 58 :: 48 :: 48 :: Web.decimal n := by
      cases us
      · exact congrArg Prod.snd (userHost_none _ hno)
      · exact congrArg Prod.snd (userHost_some [117, 58, 112] _ hno)
    rw [huh, hb]
    simp only [hh, List.drop_succ_cons, List.drop_zero, hpo]
  · rw [if_neg h] at hpo ⊢
    refine auth_text (schD sec) (uT us 117) (uT us 112) [104, 46, 120] (58 :: 48 :: 48 :: Web.decimal n) _ hu hp hh hf (.inr ⟨_, rfl, hpt⟩) ?_
    rw [List.drop_succ_cons, List.drop_zero, hpo]
    split <;> rfl
theorem partsA_chars (us : Bool) (n : Nat) : ∀ c ∈ partsA us n, vis c ∧ Web.ends c = false := by
  have hd : ∀ l : List UInt8, (∀ n < l.length, ∀ h : n < l.length, (33 ≤ (l[n]).toNat ∧ (l[n]).toNat ≤ 126) ∧ Web.ends (l[n]) = false) → ∀ c ∈ l, vis c ∧ Web.ends c = false := by
    intro l h c hc
    obtain ⟨i, hi, rfl⟩ := List.getElem_of_mem hc
    exact h i hi hi
  intro c hc
  unfold partsA at hc
  simp only [List.mem_append, List.mem_cons, List.not_mem_nil, or_false] at hc
  have k58 : vis 58 ∧ Web.ends 58 = false := ⟨by unfold vis; decide, rfl⟩
  have k48 : vis 48 ∧ Web.ends 48 = false := ⟨by unfold vis; decide, rfl⟩
  rcases hc with hc | (rfl | rfl | rfl) | rfl | rfl | rfl | hc
  · have hu : ∀ c ∈ uT us 117, Web.inSet 4 c = false := by cases us <;> decide
    have hp : ∀ c ∈ uT us 112, Web.inSet 4 c = false := by cases us <;> decide
    exact userText_chars _ _ hu hp c hc
  · exact ⟨by unfold vis; decide, rfl⟩
  · exact ⟨by unfold vis; decide, rfl⟩
  · exact ⟨by unfold vis; decide, rfl⟩
  · exact k58
  · exact k48
  · exact k48
  · exact ⟨(decimal_vis n c hc).1, (decimal_vis n c hc).2.1⟩
theorem sch_port (sec : Bool) : Web.port? (schT sec) = some (schD sec) := by cases sec <;> rfl
theorem parts_parse (sec us q f : Bool) (n : Nat) (hn : n ≤ 70000) : Web.parse (partsT sec us q f n) = if 65535 < n then none else some (partsU sec us q f n) := by
  have tail_vis : ∀ c ∈ ([47, 97] ++ (qT q [63, 113] ++ qT f [35, 102]) : List UInt8), vis c := by unfold vis; cases q <;> cases f <;> decide
  have sch_vis : ∀ c ∈ schT sec ++ [58, 47, 47], vis c := by unfold vis; cases sec <;> decide
  have hc : ∀ c ∈ partsT sec us q f n, vis c := by
    intro c hc
    have e : partsT sec us q f n = (schT sec ++ [58, 47, 47]) ++ (partsA us n ++ ([47, 97] ++ (qT q [63, 113] ++ qT f [35, 102]))) := by unfold partsT; simp
    rw [e] at hc
    rcases List.mem_append.1 hc with hc | hc
    · exact sch_vis c hc
    · rcases List.mem_append.1 hc with hc | hc
      · exact (partsA_chars us n c hc).1
      · exact tail_vis c hc
  have hlen : (partsT sec us q f n).length ≤ 65536 := by
    have h1 := decimal_len n (by omega)
    have h2 := userText_len (uT us 117) (uT us 112)
    have h3 : (schT sec).length ≤ 5 := by cases sec <;> decide
    have h4 : (uT us 117).length ≤ 1 ∧ (uT us 112).length ≤ 1 := by cases us <;> decide
    have h5 : ([47, 97] ++ (qT q [63, 113] ++ qT f [35, 102]) : List UInt8).length ≤ 6 := by cases q <;> cases f <;> decide
    unfold partsT partsA
    simp only [List.length_append, List.length_cons, List.length_nil] at h5 ⊢
    omega
  have hu := url_clean (l := partsT sec us q f n) (s := schT sec) (A := partsA us n) (R := [47, 97] ++ (qT q [63, 113] ++ qT f [35, 102])) (d := schD sec) (validD_vis _ hc) (clean_vis _ hc) (sch_port sec) (by unfold partsA; simp) (fun c hc => (partsA_chars us n c hc).2) (.inr ⟨47, _, rfl, rfl⟩)
  rw [auth_parts] at hu
  unfold Web.parse
  rw [if_neg (by omega), hu]
  by_cases h : 65535 < n
  · rw [if_pos h, if_pos h]
  · rw [if_neg h, if_neg h]
    unfold partsU
    cases q <;> cases f <;> rfl
theorem parts_port (sec us q f : Bool) (n : Nat) : portU (partsU sec us q f n) = (n : Int) := by
  unfold portU
  have e1 : (partsU sec us q f n).port = if n = schD sec then -1 else (n : Int) := rfl
  have e2 : (partsU sec us q f n).scheme = schT sec := rfl
  rw [e1, e2, portP_some (sch_port sec)]
  by_cases h : n = schD sec
  · rw [if_pos h, if_pos rfl, h]
  · rw [if_neg h, if_neg (by omega)]
end Go.Proofs.YtcmcopieagpppaaGreatDoor.P
namespace Go.Proofs.YtcmcopieagpppaaGreatDoor.P
open Go.RowKit Go.Proofs.YtcmcopieagpppaaGreatDoorW.PrintWords Go.Proofs.YtcmcopieagpppaaGreatDoorW.PrintLast Go.Proofs.YtcmcopieagpppaaGreatDoorW.PrintMore
set_option linter.unusedVariables false
set_option linter.unusedSimpArgs false
theorem bs_app (a b : ByteArray) : bs (a ++ b) = bs a ++ bs b := by
  have := ba_append (bs a) (bs b)
  rw [ba_bs, ba_bs] at this
  rw [this]
  rfl
theorem bs_lit (l : List UInt8) : bs ⟨l.toArray⟩ = l := rfl
def urlA (s0 s1 s2 s3 : ByteArray) (p : Int) (s5 : ByteArray) (b6 : Bool) (s7 : ByteArray) (b8 : Bool) (s9 : ByteArray) : Value := .agg #[.string s0, .string s1, .string s2, .string s3, .int .i64 p, .string s5, .bool b6, .string s7, .bool b8, .string s9]
def urlU (s0 s1 s2 s3 : ByteArray) (p : Int) (s5 : ByteArray) (b6 : Bool) (s7 : ByteArray) (b8 : Bool) (s9 : ByteArray) : Web.U := ⟨bs s0, bs s1, bs s2, bs s3, p, bs s5, b6, bs s7, b8, bs s9⟩
theorem bcell2 {W w1 : World} (hb : Below W.heap.size W w1) : (∀ b o, b < W.heap.size → w1.cell? ⟨b, o, none⟩ = W.cell? ⟨b, o, none⟩) ∧ (∀ b o, b < W.heap.size → w1.frozen? ⟨b, o, none⟩ = W.frozen? ⟨b, o, none⟩) :=
  ⟨fun b o h => hb.cell (p := ⟨b, o, none⟩) h, fun b o h => hb.frozen (p := ⟨b, o, none⟩) h⟩
set_option maxRecDepth 100000 in
set_option maxHeartbeats 8000000 in
theorem text_walk (s0 s1 s2 s3 : ByteArray) (p : Int) (s5 : ByteArray) (b6 : Bool) (s7 : ByteArray) (b8 : Bool) (s9 : ByteArray) (w : World) (hp0 : -1 ≤ p) (hp1 : p ≤ 65535) (hs : s0.size + s1.size + s2.size + s3.size + s5.size + s7.size + s9.size ≤ 1000000) :
    Calls Tryz.prog 27 #[urlA s0 s1 s2 s3 p s5 b6 s7 b8 s9] w fun e w' => ∃ t : ByteArray, e = .returned (.string t) ∧ Hid (bs t = Web.text (urlU s0 s1 s2 s3 p s5 b6 s7 b8 s9)) ∧ Below w.heap.size w w' := by
  unfold urlA
  have y1 : (⟨#[58, 47, 47]⟩ : ByteArray).size = 3 := rfl
  have y2 : (⟨#[58]⟩ : ByteArray).size = 1 := rfl
  have y3 : (⟨#[64]⟩ : ByteArray).size = 1 := rfl
  have y4 : (⟨#[63]⟩ : ByteArray).size = 1 := rfl
  have y5 : (⟨#[35]⟩ : ByteArray).size = 1 := rfl
  have z1 : s1.toList.isEmpty = (bs s1).isEmpty := by rw [bs_toList]
  have z2 : s2.toList.isEmpty = (bs s2).isEmpty := by rw [bs_toList]
  have e : Hid (Web.text (urlU s0 s1 s2 s3 p s5 b6 s7 b8 s9) = bs s0 ++ [58, 47, 47] ++ (if (bs s1).isEmpty ∧ (bs s2).isEmpty then [] else bs s1 ++ (if (bs s2).isEmpty then [] else 58 :: bs s2) ++ [64]) ++ bs s3 ++ (if p = -1 then [] else 58 :: Web.portText p) ++ bs s5 ++ (if b6 then 63 :: bs s7 else []) ++ (if b8 then 35 :: bs s9 else [])) := Lib.hid (by
    unfold Web.text urlU
    simp only [List.isEmpty_iff])
  have B := Lib.hid (Below.refl w.heap.size w)
  by_cases hp : p = -1
  · have hp' : (p != -1) = false := by simp [hp]
    cases h1 : (bs s1).isEmpty <;> cases h2 : (bs s2).isEmpty <;> cases b6 <;> cases b8
    all_goals
      rw [h1] at z1
      rw [h2] at z2
      have H1 := Lib.hid h1
      have H2 := Lib.hid h2
      have HP := Lib.hid hp
      clear h1 h2 hp
      go_enter Tryz.func27, Tryz.ntmps27
      go_wp2_with fail
      go_ret
      refine ⟨_, rfl, Lib.hid ?_, below_alloc B.out _⟩
      rw [e.out, H1.out, H2.out, if_pos HP.out]
      simp [bs_app, bs_lit]
  · have hp' : (p != -1) = true := by simp [hp]
    have hpt : Hid (Web.portText p = Web.decimal p.toNat) := Lib.hid (by
      obtain ⟨n, rfl⟩ := Int.eq_ofNat_of_zero_le (show 0 ≤ p by omega)
      exact portText_nat n)
    have hp2 : 0 ≤ p := by omega
    cases h1 : (bs s1).isEmpty <;> cases h2 : (bs s2).isEmpty <;> cases b6 <;> cases b8
    all_goals
      rw [h1] at z1
      rw [h2] at z2
      have H1 := Lib.hid h1
      have H2 := Lib.hid h2
      have HP := Lib.hid hp
      clear h1 h2 hp
      go_enter Tryz.func27, Tryz.ntmps27
      go_wp2_with (go_at_call 69; refine (ascii_decimal_out p _ hp2 (by omega)).mono ?_; rintro e w1 ⟨d, rfl, HD, hd, hb⟩; have HB := Lib.hid (below_step (below_alloc B.out _) hb); obtain ⟨hcc, hff⟩ := bcell2 hb; clear hb)
      go_ret
      refine ⟨_, rfl, Lib.hid ?_, HB.out⟩
      rw [e.out, H1.out, H2.out, if_neg HP.out, hpt.out]
      simp [bs_app, bs_lit, HD.out, bs_ba]
end Go.Proofs.YtcmcopieagpppaaGreatDoor.P
namespace Go.Proofs.YtcmcopieagpppaaGreatDoor.P
open Go.RowKit Go.Proofs.YtcmcopieagpppaaGreatDoorW.PrintWords Go.Proofs.YtcmcopieagpppaaGreatDoorW.PrintLast Go.Proofs.YtcmcopieagpppaaGreatDoorW.PrintMore
set_option linter.unusedVariables false
set_option linter.unusedSimpArgs false
set_option maxRecDepth 100000 in
set_option maxHeartbeats 8000000 in
theorem ref_text_walk (s0 s1 s2 s3 : ByteArray) (p : Int) (s5 : ByteArray) (b6 : Bool) (s7 : ByteArray) (b8 : Bool) (s9 : ByteArray) (w : World) (hp0 : -1 ≤ p) (hp1 : p ≤ 65535) (hs : s0.size + s1.size + s2.size + s3.size + s5.size + s7.size + s9.size ≤ 1000000) :
    Calls Tryz.prog 28 #[urlA s0 s1 s2 s3 p s5 b6 s7 b8 s9] w fun e w' => ∃ t : ByteArray, e = .returned (.string t) ∧ Hid (bs t = Web.text (urlU s0 s1 s2 s3 p s5 b6 s7 b8 s9)) ∧ Below w.heap.size w w' := by
  unfold urlA
  have y1 : (⟨#[58, 47, 47]⟩ : ByteArray).size = 3 := rfl
  have y2 : (⟨#[58]⟩ : ByteArray).size = 1 := rfl
  have y3 : (⟨#[64]⟩ : ByteArray).size = 1 := rfl
  have y4 : (⟨#[63]⟩ : ByteArray).size = 1 := rfl
  have y5 : (⟨#[35]⟩ : ByteArray).size = 1 := rfl
  have z1 : s1.toList.isEmpty = (bs s1).isEmpty := by rw [bs_toList]
  have z2 : s2.toList.isEmpty = (bs s2).isEmpty := by rw [bs_toList]
  have e : Hid (Web.text (urlU s0 s1 s2 s3 p s5 b6 s7 b8 s9) = bs s0 ++ [58, 47, 47] ++ (if (bs s1).isEmpty ∧ (bs s2).isEmpty then [] else bs s1 ++ (if (bs s2).isEmpty then [] else 58 :: bs s2) ++ [64]) ++ bs s3 ++ (if p = -1 then [] else 58 :: Web.portText p) ++ bs s5 ++ (if b6 then 63 :: bs s7 else []) ++ (if b8 then 35 :: bs s9 else [])) := Lib.hid (by
    unfold Web.text urlU
    simp only [List.isEmpty_iff])
  have B := Lib.hid (Below.refl w.heap.size w)
  by_cases hp : p = -1
  · have hp' : (p != -1) = false := by simp [hp]
    cases h1 : (bs s1).isEmpty <;> cases h2 : (bs s2).isEmpty <;> cases b6 <;> cases b8
    all_goals
      rw [h1] at z1
      rw [h2] at z2
      have H1 := Lib.hid h1
      have H2 := Lib.hid h2
      have HP := Lib.hid hp
      clear h1 h2 hp
      go_enter Tryz.func28, Tryz.ntmps28
      go_wp2_with fail
      go_ret
      refine ⟨_, rfl, Lib.hid ?_, below_alloc B.out _⟩
      rw [e.out, H1.out, H2.out, if_pos HP.out]
      simp [bs_app, bs_lit]
  · have hp' : (p != -1) = true := by simp [hp]
    have hpt : Hid (Web.portText p = Web.decimal p.toNat) := Lib.hid (by
      obtain ⟨n, rfl⟩ := Int.eq_ofNat_of_zero_le (show 0 ≤ p by omega)
      exact portText_nat n)
    have hp2 : 0 ≤ p := by omega
    cases h1 : (bs s1).isEmpty <;> cases h2 : (bs s2).isEmpty <;> cases b6 <;> cases b8
    all_goals
      rw [h1] at z1
      rw [h2] at z2
      have H1 := Lib.hid h1
      have H2 := Lib.hid h2
      have HP := Lib.hid hp
      clear h1 h2 hp
      go_enter Tryz.func28, Tryz.ntmps28
      go_wp2_with (go_at_call 70; refine (ref_decimal_out p _ hp2 (by omega)).mono ?_; rintro e w1 ⟨d, rfl, HD, hd, hb⟩; have HB := Lib.hid (below_step (below_alloc B.out _) hb); obtain ⟨hcc, hff⟩ := bcell2 hb; clear hb)
      go_ret
      refine ⟨_, rfl, Lib.hid ?_, HB.out⟩
      rw [e.out, H1.out, H2.out, if_neg HP.out, hpt.out]
      simp [bs_app, bs_lit, HD.out, bs_ba]
end Go.Proofs.YtcmcopieagpppaaGreatDoor.P
namespace Go.Proofs.YtcmcopieagpppaaGreatDoor.P
open Go.RowKit Go.Proofs.YtcmcopieagpppaaGreatDoorW.PrintWords Go.Proofs.YtcmcopieagpppaaGreatDoorW.PrintLast Go.Proofs.YtcmcopieagpppaaGreatDoorW.PrintMore
attribute [local go_sem] max2_int min2_int max_two min_two max_three min_three max_four min_four
set_option linter.unusedVariables false
set_option linter.unusedSimpArgs false
def parapetalike_Port.f (a0 : Int) : Option (Bool) := if a0 ≥ (-1) then (some (decide (a0 ≤ 65535))) else (some false)
set_option maxHeartbeats 8000000 in
set_option maxRecDepth 100000 in
theorem parapetalike_Port.calls (a0 : Int) (r : Bool) (w : World) (h : parapetalike_Port.f a0 = some r) :
    Calls Tryz.prog 68 #[.int .i64 a0] w fun e w' => e = .returned (.bool r) ∧ Drawn0 w w' := by
  have H : (if a0 ≥ (-1) then (some (decide (a0 ≤ 65535))) else (some false)) = some r := h
  clear h
  by_cases c2 : a0 ≥ (-1)
  · rw [if_pos c2] at H
    have c2b0 : decide ((-1) ≤ a0) = true := decide_eq_true c2
    clear c2
    obtain rfl := Option.some.inj H
    go_enter Tryz.func68, Tryz.ntmps68
    go_wp2
    go_ret
    exact ⟨by first | rfl | (simp; done) | (simp [*]; done), by repeat (first | exact Drawn0.refl _ | apply Drawn0.step)⟩
  · rw [if_neg c2] at H
    have c2b0 : decide ((-1) ≤ a0) = false := decide_eq_false c2
    clear c2
    obtain rfl := Option.some.inj H
    go_enter Tryz.func68, Tryz.ntmps68
    go_wp2
    go_ret
    exact ⟨by first | rfl | (simp; done) | (simp [*]; done), by repeat (first | exact Drawn0.refl _ | apply Drawn0.step)⟩
end Go.Proofs.YtcmcopieagpppaaGreatDoor.P
namespace Go.Proofs.YtcmcopieagpppaaGreatDoor.P
open Go.RowKit Go.Proofs.YtcmcopieagpppaaGreatDoorW.PrintWords Go.Proofs.YtcmcopieagpppaaGreatDoorW.PrintLast Go.Proofs.YtcmcopieagpppaaGreatDoorW.PrintMore
attribute [local go_sem] max2_int min2_int max_two min_two max_three min_three max_four min_four
set_option linter.unusedVariables false
set_option linter.unusedSimpArgs false
def parapetalike_URL.f (a0_0 : ByteArray) (a0_1 : ByteArray) (a0_2 : ByteArray) (a0_3 : ByteArray) (a0_4 : Int) (a0_5 : ByteArray) (a0_6 : Bool) (a0_7 : ByteArray) (a0_8 : Bool) (a0_9 : ByteArray) : Option (Bool) := (parapetalike_Port.f a0_4).bind fun t444 => (if t444 = true then (some (decide ((wrap64 ((wrap64 ((wrap64 ((wrap64 ((wrap64 ((wrap64 ((a0_0.size : Int) + (a0_1.size : Int))) + (a0_2.size : Int))) + (a0_3.size : Int))) + (a0_5.size : Int))) + (a0_7.size : Int))) + (a0_9.size : Int))) ≤ 3000))) else (some false))
set_option maxHeartbeats 8000000 in
set_option maxRecDepth 100000 in
theorem parapetalike_URL.calls (a0_0 : ByteArray) (a0_1 : ByteArray) (a0_2 : ByteArray) (a0_3 : ByteArray) (a0_4 : Int) (a0_5 : ByteArray) (a0_6 : Bool) (a0_7 : ByteArray) (a0_8 : Bool) (a0_9 : ByteArray) (r : Bool) (w : World) (h : parapetalike_URL.f a0_0 a0_1 a0_2 a0_3 a0_4 a0_5 a0_6 a0_7 a0_8 a0_9 = some r) :
    Calls Tryz.prog 24 #[.agg #[.string a0_0, .string a0_1, .string a0_2, .string a0_3, .int .i64 a0_4, .string a0_5, .bool a0_6, .string a0_7, .bool a0_8, .string a0_9]] w fun e w' => e = .returned (.bool r) ∧ Below w.heap.size w w' := by
  have hu24 := Tryz.underlying24
  have HB := Aside0.mk (Below.refl w.heap.size w)
  have H : ((parapetalike_Port.f a0_4).bind fun t444 => (if t444 = true then (some (decide ((wrap64 ((wrap64 ((wrap64 ((wrap64 ((wrap64 ((wrap64 ((a0_0.size : Int) + (a0_1.size : Int))) + (a0_2.size : Int))) + (a0_3.size : Int))) + (a0_5.size : Int))) + (a0_7.size : Int))) + (a0_9.size : Int))) ≤ 3000))) else (some false))) = some r := h
  clear h
  replace H := Option.bind_eq_some_iff.mp H
  obtain ⟨t444, A20, H⟩ := H
  replace H : (if t444 = true then (some (decide ((wrap64 ((wrap64 ((wrap64 ((wrap64 ((wrap64 ((wrap64 ((a0_0.size : Int) + (a0_1.size : Int))) + (a0_2.size : Int))) + (a0_3.size : Int))) + (a0_5.size : Int))) + (a0_7.size : Int))) + (a0_9.size : Int))) ≤ 3000))) else (some false)) = some r := H
  have A2 := Aside0.mk A20
  clear A20
  by_cases c3 : t444 = true
  · subst c3
    have H1 : (some (decide ((wrap64 ((wrap64 ((wrap64 ((wrap64 ((wrap64 ((wrap64 ((a0_0.size : Int) + (a0_1.size : Int))) + (a0_2.size : Int))) + (a0_3.size : Int))) + (a0_5.size : Int))) + (a0_7.size : Int))) + (a0_9.size : Int))) ≤ 3000))) = some r := by rw [if_pos rfl] at H; exact H
    clear H
    have H := H1
    clear H1
    obtain rfl := Option.some.inj H
    go_enter Tryz.func24, Tryz.ntmps24
    go_wp2_with (first | ((with_reducible refine gate_dst (N := 1) rfl ?_); (try (refine gate_guard (by rfl) ?_; dsimp only)); refine box_event ?hg (N := 1) ?hd (cs := #[.string a0_0, .string a0_1, .string a0_2, .string a0_3, .int .i64 a0_4, .string a0_5, .bool a0_6, .string a0_7, .bool a0_8, .string a0_9]) (t := 24) ?hr ?_; (case hd => rfl); (case hg => rfl); (case hr => first | (go_simp; done) | (go_simp; rfl)); intro gb443 hg w4 hbox hb; have n0_ := Aside0.mk (below_step (by repeat (first | (with_reducible first | exact HB.out | apply below_alloc | apply pw_below_drewN | apply below_drew1) | exact HB.out)) hb); have n1_ := Aside0.mk (hbox); have n2_ := Aside0.mk ((by rw [hg]; exact (below_size (by repeat (first | (with_reducible first | exact HB.out | apply below_alloc | apply pw_below_drewN | apply below_drew1) | exact HB.out))) : w.heap.size ≤ gb443)); have n3_ := Aside0.mk ((by rw [hg]; exact (below_size (by repeat (first | (with_reducible first | exact HB.out | apply below_alloc | apply pw_below_drewN | apply below_drew1) | exact HB.out))) : w.heap.size ≤ gb443)); clear HB; have HB := n0_; have BK443 := n1_; have GW443 := n2_; have GE443 := n3_; clear n0_ n1_ n2_ n3_; clear hb hbox hg; have hcz5_0 : w4.cell? ⟨gb443, 0, none⟩ = some (.string a0_0) := (blk_cell BK443.out 0).trans rfl; have hcz5_1 : w4.cell? ⟨gb443, 1, none⟩ = some (.string a0_1) := (blk_cell BK443.out 1).trans rfl; have hcz5_2 : w4.cell? ⟨gb443, 2, none⟩ = some (.string a0_2) := (blk_cell BK443.out 2).trans rfl; have hcz5_3 : w4.cell? ⟨gb443, 3, none⟩ = some (.string a0_3) := (blk_cell BK443.out 3).trans rfl; have hcz5_4 : w4.cell? ⟨gb443, 4, none⟩ = some (.int .i64 a0_4) := (blk_cell BK443.out 4).trans rfl; have hcz5_5 : w4.cell? ⟨gb443, 5, none⟩ = some (.string a0_5) := (blk_cell BK443.out 5).trans rfl; have hcz5_6 : w4.cell? ⟨gb443, 6, none⟩ = some (.bool a0_6) := (blk_cell BK443.out 6).trans rfl; have hcz5_7 : w4.cell? ⟨gb443, 7, none⟩ = some (.string a0_7) := (blk_cell BK443.out 7).trans rfl; have hcz5_8 : w4.cell? ⟨gb443, 8, none⟩ = some (.bool a0_8) := (blk_cell BK443.out 8).trans rfl; have hcz5_9 : w4.cell? ⟨gb443, 9, none⟩ = some (.string a0_9) := (blk_cell BK443.out 9).trans rfl; have hfz5_0 := blk_frozen BK443.out 0; have hfz5_1 := blk_frozen BK443.out 1; have hfz5_2 := blk_frozen BK443.out 2; have hfz5_3 := blk_frozen BK443.out 3; have hfz5_4 := blk_frozen BK443.out 4; have hfz5_5 := blk_frozen BK443.out 5; have hfz5_6 := blk_frozen BK443.out 6; have hfz5_7 := blk_frozen BK443.out 7; have hfz5_8 := blk_frozen BK443.out 8; have hfz5_9 := blk_frozen BK443.out 9) | ((with_reducible refine gate_callee (f := 68) rfl ?_); refine goesL_ (some 5) rfl rfl Tryz.func68 (by kernel_rfl) rfl #[.int .i64 a0_4] rfl (by (try simp only [List.map_toArray, List.map_cons, List.map_nil]); first | done | rfl | (simp only [List.length_drop, List.length_take]; rfl)) ?_; (with_reducible refine (parapetalike_Port.calls a0_4 true _ A2.out).mono ?_); rintro e w' ⟨rfl, ⟨nd, rfl⟩⟩; refine ⟨_, rfl, ?_⟩))
    go_ret
    exact ⟨by first | rfl | (simp [errW_none, errW_some] <;> rfl) | (simp [*, errW_none, errW_some] <;> rfl), by repeat (first | (with_reducible first | exact HB.out | apply below_alloc | apply pw_below_drewN | apply below_drew1 | refine below_set ?_ GE443.out) | exact HB.out)⟩
  · replace c3 := Bool.eq_false_iff.mpr c3
    subst c3
    have H1 : (some false) = some r := by rw [if_neg (show ¬ (false = true) by decide)] at H; exact H
    clear H
    have H := H1
    clear H1
    obtain rfl := Option.some.inj H
    go_enter Tryz.func24, Tryz.ntmps24
    go_wp2_with (first | ((with_reducible refine gate_dst (N := 1) rfl ?_); (try (refine gate_guard (by rfl) ?_; dsimp only)); refine box_event ?hg (N := 1) ?hd (cs := #[.string a0_0, .string a0_1, .string a0_2, .string a0_3, .int .i64 a0_4, .string a0_5, .bool a0_6, .string a0_7, .bool a0_8, .string a0_9]) (t := 24) ?hr ?_; (case hd => rfl); (case hg => rfl); (case hr => first | (go_simp; done) | (go_simp; rfl)); intro gb443 hg w6 hbox hb; have n0_ := Aside0.mk (below_step (by repeat (first | (with_reducible first | exact HB.out | apply below_alloc | apply pw_below_drewN | apply below_drew1) | exact HB.out)) hb); have n1_ := Aside0.mk (hbox); have n2_ := Aside0.mk ((by rw [hg]; exact (below_size (by repeat (first | (with_reducible first | exact HB.out | apply below_alloc | apply pw_below_drewN | apply below_drew1) | exact HB.out))) : w.heap.size ≤ gb443)); have n3_ := Aside0.mk ((by rw [hg]; exact (below_size (by repeat (first | (with_reducible first | exact HB.out | apply below_alloc | apply pw_below_drewN | apply below_drew1) | exact HB.out))) : w.heap.size ≤ gb443)); clear HB; have HB := n0_; have BK443 := n1_; have GW443 := n2_; have GE443 := n3_; clear n0_ n1_ n2_ n3_; clear hb hbox hg; have hcz7_0 : w6.cell? ⟨gb443, 0, none⟩ = some (.string a0_0) := (blk_cell BK443.out 0).trans rfl; have hcz7_1 : w6.cell? ⟨gb443, 1, none⟩ = some (.string a0_1) := (blk_cell BK443.out 1).trans rfl; have hcz7_2 : w6.cell? ⟨gb443, 2, none⟩ = some (.string a0_2) := (blk_cell BK443.out 2).trans rfl; have hcz7_3 : w6.cell? ⟨gb443, 3, none⟩ = some (.string a0_3) := (blk_cell BK443.out 3).trans rfl; have hcz7_4 : w6.cell? ⟨gb443, 4, none⟩ = some (.int .i64 a0_4) := (blk_cell BK443.out 4).trans rfl; have hcz7_5 : w6.cell? ⟨gb443, 5, none⟩ = some (.string a0_5) := (blk_cell BK443.out 5).trans rfl; have hcz7_6 : w6.cell? ⟨gb443, 6, none⟩ = some (.bool a0_6) := (blk_cell BK443.out 6).trans rfl; have hcz7_7 : w6.cell? ⟨gb443, 7, none⟩ = some (.string a0_7) := (blk_cell BK443.out 7).trans rfl; have hcz7_8 : w6.cell? ⟨gb443, 8, none⟩ = some (.bool a0_8) := (blk_cell BK443.out 8).trans rfl; have hcz7_9 : w6.cell? ⟨gb443, 9, none⟩ = some (.string a0_9) := (blk_cell BK443.out 9).trans rfl; have hfz7_0 := blk_frozen BK443.out 0; have hfz7_1 := blk_frozen BK443.out 1; have hfz7_2 := blk_frozen BK443.out 2; have hfz7_3 := blk_frozen BK443.out 3; have hfz7_4 := blk_frozen BK443.out 4; have hfz7_5 := blk_frozen BK443.out 5; have hfz7_6 := blk_frozen BK443.out 6; have hfz7_7 := blk_frozen BK443.out 7; have hfz7_8 := blk_frozen BK443.out 8; have hfz7_9 := blk_frozen BK443.out 9) | ((with_reducible refine gate_callee (f := 68) rfl ?_); refine goesL_ (some 5) rfl rfl Tryz.func68 (by kernel_rfl) rfl #[.int .i64 a0_4] rfl (by (try simp only [List.map_toArray, List.map_cons, List.map_nil]); first | done | rfl | (simp only [List.length_drop, List.length_take]; rfl)) ?_; (with_reducible refine (parapetalike_Port.calls a0_4 false _ A2.out).mono ?_); rintro e w' ⟨rfl, ⟨nd, rfl⟩⟩; refine ⟨_, rfl, ?_⟩))
    go_ret
    exact ⟨by first | rfl | (simp [errW_none, errW_some] <;> rfl) | (simp [*, errW_none, errW_some] <;> rfl), by repeat (first | (with_reducible first | exact HB.out | apply below_alloc | apply pw_below_drewN | apply below_drew1 | refine below_set ?_ GE443.out) | exact HB.out)⟩
end Go.Proofs.YtcmcopieagpppaaGreatDoor.P
namespace Go.Proofs.YtcmcopieagpppaaGreatDoor.P
open Go.RowKit Go.Proofs.YtcmcopieagpppaaGreatDoorW.PrintWords Go.Proofs.YtcmcopieagpppaaGreatDoorW.PrintLast Go.Proofs.YtcmcopieagpppaaGreatDoorW.PrintMore
set_option linter.unusedVariables false
set_option linter.unusedSimpArgs false
theorem eqA24 (d : Nat) (w : World) (x0 y0 x1 y1 x2 y2 x3 y3 : ByteArray) (x4 y4 : Int) (x5 y5 : ByteArray) (x6 y6 : Bool) (x7 y7 : ByteArray) (x8 y8 : Bool) (x9 y9 : ByteArray) :
    (Op.equalIn (d + 2) 24 (.agg #[.string x0, .string x1, .string x2, .string x3, .int .i64 x4, .string x5, .bool x6, .string x7, .bool x8, .string x9]) (.agg #[.string y0, .string y1, .string y2, .string y3, .int .i64 y4, .string y5, .bool y6, .string y7, .bool y8, .string y9])).run Tryz.prog w = .ok (x0.toList == y0.toList && (x1.toList == y1.toList && (x2.toList == y2.toList && (x3.toList == y3.toList && (x4 == y4 && (x5.toList == y5.toList && (x6 == y6 && (x7.toList == y7.toList && (x8 == y8 && (x9.toList == y9.toList)))))))))) w := by
  refine eqA_of Tryz.underlying24 (by kernel_rfl) ?_
  refine eqf_cons (by rfl) (by go_simp; rfl) (by go_simp; rfl) (by go_simp) ?_
  refine eqf_cons (by rfl) (by go_simp; rfl) (by go_simp; rfl) (by go_simp) ?_
  refine eqf_cons (by rfl) (by go_simp; rfl) (by go_simp; rfl) (by go_simp) ?_
  refine eqf_cons (by rfl) (by go_simp; rfl) (by go_simp; rfl) (by go_simp) ?_
  refine eqf_cons (by rfl) (by go_simp; rfl) (by go_simp; rfl) (by go_simp) ?_
  refine eqf_cons (by rfl) (by go_simp; rfl) (by go_simp; rfl) (by go_simp) ?_
  refine eqf_cons (by rfl) (by go_simp; rfl) (by go_simp; rfl) (by go_simp) ?_
  refine eqf_cons (by rfl) (by go_simp; rfl) (by go_simp; rfl) (by go_simp) ?_
  refine eqf_cons (by rfl) (by go_simp; rfl) (by go_simp; rfl) (by go_simp) ?_
  exact eqf_last (by rfl) (by go_simp; rfl) (by go_simp; rfl) (by go_simp)
theorem url_eql (W : World) (x0 x1 x2 x3 : ByteArray) (x4 : Int) (x5 : ByteArray) (x6 : Bool) (x7 : ByteArray) (x8 : Bool) (x9 : ByteArray) :
    (binOp .eql 24 (.agg #[.string x0, .string x1, .string x2, .string x3, .int .i64 x4, .string x5, .bool x6, .string x7, .bool x8, .string x9]) (.agg #[.string x0, .string x1, .string x2, .string x3, .int .i64 x4, .string x5, .bool x6, .string x7, .bool x8, .string x9])).run Tryz.prog W = .ok (.bool true) W := by
  have h := eqA24 9998 W x0 x0 x1 x1 x2 x2 x3 x3 x4 x4 x5 x5 x6 x6 x7 x7 x8 x8 x9 x9
  simp only [BEq.rfl, Bool.and_self] at h
  simp only [binOp]
  simp [Op.equal, Op.maxDepth, h]
set_option maxRecDepth 100000 in
theorem port_c (s0 s1 s2 s3 : ByteArray) (p : Int) (s5 : ByteArray) (b6 : Bool) (s7 : ByteArray) (b8 : Bool) (s9 : ByteArray) (w : World) :
    Calls Tryz.prog 29 #[.agg #[.string s0, .string s1, .string s2, .string s3, .int .i64 p, .string s5, .bool b6, .string s7, .bool b8, .string s9]] w fun e w' => e = .returned (.int .i64 (if p = -1 then (portP (bs s0)).1 else p)) ∧ Below w.heap.size w w' := by
  have B := Lib.hid (Below.refl w.heap.size w)
  by_cases hp : p = -1
  · have hp' : (p != -1) = false := by simp [hp]
    rw [if_pos hp]
    clear hp
    go_enter Tryz.func29, Tryz.ntmps29
    go_wp2_with (go_at_call 25; refine (url_default_c s0 _).mono ?_; rintro e w1 ⟨rfl, hb⟩; have HB := Lib.hid (below_step (below_alloc B.out _) hb.below); clear hb)
    go_ret
    exact ⟨rfl, HB.out⟩
  · have hp' : (p != -1) = true := by simp [hp]
    rw [if_neg hp]
    clear hp
    go_enter Tryz.func29, Tryz.ntmps29
    go_wp2_with fail
    go_ret
    exact ⟨rfl, below_alloc B.out _⟩
end Go.Proofs.YtcmcopieagpppaaGreatDoor.P
namespace Go.Proofs.YtcmcopieagpppaaGreatDoor.P
open Go.RowKit Go.Proofs.YtcmcopieagpppaaGreatDoorW.PrintWords Go.Proofs.YtcmcopieagpppaaGreatDoorW.PrintLast Go.Proofs.YtcmcopieagpppaaGreatDoorW.PrintMore
set_option linter.unusedVariables false
set_option linter.unusedSimpArgs false
def UK (w : World) (g : Nat) (x0 x1 x2 x3 : ByteArray) (x4 : Int) (x5 : ByteArray) (x6 : Bool) (x7 : ByteArray) (x8 : Bool) (x9 : ByteArray) : Prop := w.heap[g]? = some (.cells #[.string x0, .string x1, .string x2, .string x3, .int .i64 x4, .string x5, .bool x6, .string x7, .bool x8, .string x9] 24 (0, 0))
theorem UK.below {w w1 : World} {g : Nat} {x0 x1 x2 x3 : ByteArray} {x4 : Int} {x5 : ByteArray} {x6 : Bool} {x7 : ByteArray} {x8 : Bool} {x9 : ByteArray} (h : UK w g x0 x1 x2 x3 x4 x5 x6 x7 x8 x9) (hb : Below w.heap.size w w1) : UK w1 g x0 x1 x2 x3 x4 x5 x6 x7 x8 x9 := blk_below h hb
theorem UK.lt {w : World} {g : Nat} {x0 x1 x2 x3 : ByteArray} {x4 : Int} {x5 : ByteArray} {x6 : Bool} {x7 : ByteArray} {x8 : Bool} {x9 : ByteArray} (h : UK w g x0 x1 x2 x3 x4 x5 x6 x7 x8 x9) : g < w.heap.size := blk_lt h
theorem UK.cells {w : World} {g : Nat} {x0 x1 x2 x3 : ByteArray} {x4 : Int} {x5 : ByteArray} {x6 : Bool} {x7 : ByteArray} {x8 : Bool} {x9 : ByteArray} (h : UK w g x0 x1 x2 x3 x4 x5 x6 x7 x8 x9) : w.cell? ⟨g, 0, none⟩ = some (.string x0) ∧ w.cell? ⟨g, 1, none⟩ = some (.string x1) ∧ w.cell? ⟨g, 2, none⟩ = some (.string x2) ∧ w.cell? ⟨g, 3, none⟩ = some (.string x3) ∧ w.cell? ⟨g, 4, none⟩ = some (.int .i64 x4) ∧ w.cell? ⟨g, 5, none⟩ = some (.string x5) ∧ w.cell? ⟨g, 6, none⟩ = some (.bool x6) ∧ w.cell? ⟨g, 7, none⟩ = some (.string x7) ∧ w.cell? ⟨g, 8, none⟩ = some (.bool x8) ∧ w.cell? ⟨g, 9, none⟩ = some (.string x9) :=
  ⟨(blk_cell h 0).trans rfl, (blk_cell h 1).trans rfl, (blk_cell h 2).trans rfl, (blk_cell h 3).trans rfl, (blk_cell h 4).trans rfl, (blk_cell h 5).trans rfl, (blk_cell h 6).trans rfl, (blk_cell h 7).trans rfl, (blk_cell h 8).trans rfl, (blk_cell h 9).trans rfl⟩
theorem UK.make (x0 x1 x2 x3 : ByteArray) (x4 : Int) (x5 : ByteArray) (x6 : Bool) (x7 : ByteArray) (x8 : Bool) (x9 : ByteArray) {w w1 : World} (hB : Below w.heap.size w w1) (hT : Tabs w1) : ∃ (w2 : World) (g : Nat), w1.alloc (.cells #[.string x0, .string x1, .string x2, .string x3, .int .i64 x4, .string x5, .bool x6, .string x7, .bool x8, .string x9] 24 (0, 0)) = w2 ∧ w1.heap.size = g ∧ Hid (UK w2 g x0 x1 x2 x3 x4 x5 x6 x7 x8 x9) ∧ Hid (Below w.heap.size w w2) ∧ Hid (Tabs w2) ∧ Below w1.heap.size w1 w2 := by
  have b := below_alloc (Below.refl w1.heap.size w1) (.cells #[.string x0, .string x1, .string x2, .string x3, .int .i64 x4, .string x5, .bool x6, .string x7, .bool x8, .string x9] 24 (0, 0))
  exact ⟨_, _, rfl, rfl, Lib.hid (heap_alloc_new w1 _), Lib.hid (below_step hB b), Lib.hid (hT.below b), b⟩
end Go.Proofs.YtcmcopieagpppaaGreatDoor.P
namespace Go.Proofs.YtcmcopieagpppaaGreatDoor.P
open Go.RowKit Go.Proofs.YtcmcopieagpppaaGreatDoorW.PrintWords Go.Proofs.YtcmcopieagpppaaGreatDoorW.PrintLast Go.Proofs.YtcmcopieagpppaaGreatDoorW.PrintMore
set_option linter.unusedVariables false
set_option linter.unusedSimpArgs false
theorem aw_none : Web.parse [102, 105, 108, 101, 58, 47, 47, 47, 97] = none := by decide +kernel
theorem aw_p1 (W : World) (hT : Tabs W) : Calls Tryz.prog 22 #[.string ⟨#[72, 84, 84, 80, 83, 58, 92, 92, 69, 120, 46, 99, 111, 109, 58, 52, 52, 51, 92, 97, 92, 46, 46, 92, 98, 63, 113, 35, 102]⟩] W fun e w' => e = .returned (.tuple #[.agg #[.string ⟨#[104, 116, 116, 112, 115]⟩, .string ⟨#[]⟩, .string ⟨#[]⟩, .string ⟨#[101, 120, 46, 99, 111, 109]⟩, .int .i64 (-1), .string ⟨#[47, 98]⟩, .bool true, .string ⟨#[113]⟩, .bool true, .string ⟨#[102]⟩], .int .i64 0]) ∧ Below W.heap.size W w' := by
  have k := url_parse_walk ⟨#[72, 84, 84, 80, 83, 58, 92, 92, 69, 120, 46, 99, 111, 109, 58, 52, 52, 51, 92, 97, 92, 46, 46, 92, 98, 63, 113, 35, 102]⟩ W hT
  rw [show Web.parse (bs ⟨#[72, 84, 84, 80, 83, 58, 92, 92, 69, 120, 46, 99, 111, 109, 58, 52, 52, 51, 92, 97, 92, 46, 46, 92, 98, 63, 113, 35, 102]⟩) = some awU from aw_parse] at k
  exact k
theorem aw_p2 (W : World) (hT : Tabs W) : Calls Tryz.prog 22 #[.string ⟨#[102, 105, 108, 101, 58, 47, 47, 47, 97]⟩] W fun e w' => e = .returned (.tuple #[.agg #[.string ⟨#[]⟩, .string ⟨#[]⟩, .string ⟨#[]⟩, .string ⟨#[]⟩, .int .i64 0, .string ⟨#[]⟩, .bool false, .string ⟨#[]⟩, .bool false, .string ⟨#[]⟩], .int .i64 8]) ∧ Below W.heap.size W w' := by
  have k := url_parse_walk ⟨#[102, 105, 108, 101, 58, 47, 47, 47, 97]⟩ W hT
  rw [show Web.parse (bs ⟨#[102, 105, 108, 101, 58, 47, 47, 47, 97]⟩) = none from aw_none] at k
  exact k
theorem aw_text : Web.text awU = bs ⟨#[104, 116, 116, 112, 115, 58, 47, 47, 101, 120, 46, 99, 111, 109, 47, 98, 63, 113, 35, 102]⟩ := by decide +kernel
theorem bs_inj {a b : ByteArray} (h : bs a = bs b) : a = b := by
  rw [← ba_bs a, ← ba_bs b, h]
theorem aw_t1 (W : World) : Calls Tryz.prog 27 #[.agg #[.string ⟨#[104, 116, 116, 112, 115]⟩, .string ⟨#[]⟩, .string ⟨#[]⟩, .string ⟨#[101, 120, 46, 99, 111, 109]⟩, .int .i64 (-1), .string ⟨#[47, 98]⟩, .bool true, .string ⟨#[113]⟩, .bool true, .string ⟨#[102]⟩]] W fun e w' => e = .returned (.string ⟨#[104, 116, 116, 112, 115, 58, 47, 47, 101, 120, 46, 99, 111, 109, 47, 98, 63, 113, 35, 102]⟩) ∧ Below W.heap.size W w' := by
  refine (text_walk ⟨#[104, 116, 116, 112, 115]⟩ ⟨#[]⟩ ⟨#[]⟩ ⟨#[101, 120, 46, 99, 111, 109]⟩ (-1) ⟨#[47, 98]⟩ true ⟨#[113]⟩ true ⟨#[102]⟩ W (by decide) (by decide) (by decide)).mono ?_
  rintro e w' ⟨t, rfl, ht, hb⟩
  have h2 : t = ⟨#[104, 116, 116, 112, 115, 58, 47, 47, 101, 120, 46, 99, 111, 109, 47, 98, 63, 113, 35, 102]⟩ := bs_inj (ht.out.trans aw_text)
  rw [h2]
  exact ⟨rfl, hb⟩
theorem aw_r1 (W : World) : Calls Tryz.prog 29 #[.agg #[.string ⟨#[104, 116, 116, 112, 115]⟩, .string ⟨#[]⟩, .string ⟨#[]⟩, .string ⟨#[101, 120, 46, 99, 111, 109]⟩, .int .i64 (-1), .string ⟨#[47, 98]⟩, .bool true, .string ⟨#[113]⟩, .bool true, .string ⟨#[102]⟩]] W fun e w' => e = .returned (.int .i64 443) ∧ Below W.heap.size W w' := by
  have k := port_c ⟨#[104, 116, 116, 112, 115]⟩ ⟨#[]⟩ ⟨#[]⟩ ⟨#[101, 120, 46, 99, 111, 109]⟩ (-1) ⟨#[47, 98]⟩ true ⟨#[113]⟩ true ⟨#[102]⟩ W
  exact k
set_option maxRecDepth 100000 in
set_option maxHeartbeats 2000000 in
theorem awake11 (w : World) (hT : Tabs w) : Calls Tryz.prog 21 #[] w fun e w' => e = .returned (.bool true) ∧ Below w.heap.size w w' := by
  have HT := Lib.hid hT
  clear hT
  go_enter Tryz.func21, Tryz.ntmps21
  go_wp2_with fail
  refine (aw_p1 _ HT.out).mono ?_
  rintro e w1 ⟨rfl, b1⟩
  have B1 := Lib.hid b1
  have T1 := Lib.hid (HT.out.below b1)
  clear b1 HT
  go_wp2_with fail
  obtain ⟨w2, g2, ew, eg, K2, B2, T2, -⟩ := UK.make ⟨#[104, 116, 116, 112, 115]⟩ ⟨#[]⟩ ⟨#[]⟩ ⟨#[101, 120, 46, 99, 111, 109]⟩ (-1) ⟨#[47, 98]⟩ true ⟨#[113]⟩ true ⟨#[102]⟩ B1.out T1.out
  rw [ew, eg]
  clear ew eg B1 T1
  refine (aw_p2 _ T2.out).mono ?_
  rintro e w3 ⟨rfl, b3⟩
  have B3 := Lib.hid (below_step B2.out b3)
  have T3 := Lib.hid (T2.out.below b3)
  have K3 := Lib.hid (K2.out.below b3)
  clear b3 K2 B2 T2
  go_upto_region 3 with (fail)
  obtain ⟨w4, g4, ew, eg, _, B4, T4, b4⟩ := UK.make ⟨#[]⟩ ⟨#[]⟩ ⟨#[]⟩ ⟨#[]⟩ 0 ⟨#[]⟩ false ⟨#[]⟩ false ⟨#[]⟩ B3.out T3.out
  rw [ew, eg]
  have K4 := Lib.hid (K3.out.below b4)
  clear ew eg B3 T3 b4 K3
  obtain ⟨zc0, zc1, zc2, zc3, zc4, zc5, zc6, zc7, zc8, zc9⟩ := K4.out.cells
  go_wp2_with fail
  refine (aw_t1 _).mono ?_
  rintro e w5 ⟨rfl, b5⟩
  have K5 := Lib.hid (K4.out.below b5)
  have B5 := Lib.hid (below_step B4.out b5)
  clear zc0 zc1 zc2 zc3 zc4 zc5 zc6 zc7 zc8 zc9 K4 B4 T4 b5
  obtain ⟨zc0, zc1, zc2, zc3, zc4, zc5, zc6, zc7, zc8, zc9⟩ := K5.out.cells
  go_wp2_with fail
  refine (aw_r1 _).mono ?_
  rintro e w6 ⟨rfl, b6⟩
  have B6 := Lib.hid (below_step B5.out b6)
  go_wp2_with fail
  go_ret
  exact ⟨rfl, B6.out⟩
end Go.Proofs.YtcmcopieagpppaaGreatDoor.P
namespace Go.Proofs.YtcmcopieagpppaaGreatDoor.P
open Go.RowKit Go.Proofs.YtcmcopieagpppaaGreatDoorW.PrintWords Go.Proofs.YtcmcopieagpppaaGreatDoorW.PrintLast Go.Proofs.YtcmcopieagpppaaGreatDoorW.PrintMore
set_option linter.unusedVariables false
set_option linter.unusedSimpArgs false
theorem urlR_open (o : Option Web.U) : ∃ (x0 x1 x2 x3 : ByteArray) (x4 : Int) (x5 : ByteArray) (x6 : Bool) (x7 : ByteArray) (x8 : Bool) (x9 : ByteArray) (n : Int),
    urlR o = .tuple #[.agg #[.string x0, .string x1, .string x2, .string x3, .int .i64 x4, .string x5, .bool x6, .string x7, .bool x8, .string x9], .int .i64 n] ∧
    Hid ((o = none ∧ n = 8 ∧ x0 = ⟨#[]⟩ ∧ x1 = ⟨#[]⟩ ∧ x2 = ⟨#[]⟩ ∧ x3 = ⟨#[]⟩ ∧ x4 = 0 ∧ x5 = ⟨#[]⟩ ∧ x6 = false ∧ x7 = ⟨#[]⟩ ∧ x8 = false ∧ x9 = ⟨#[]⟩) ∨ (o = some (urlU x0 x1 x2 x3 x4 x5 x6 x7 x8 x9) ∧ n = 0)) ∧ (n = 8 ∨ n = 0) := by
  cases o with
  | none => exact ⟨_, _, _, _, _, _, _, _, _, _, _, rfl, Lib.hid (.inl ⟨rfl, rfl, rfl, rfl, rfl, rfl, rfl, rfl, rfl, rfl, rfl, rfl⟩), .inl rfl⟩
  | some u => exact ⟨ba u.scheme, ba u.user, ba u.pass, ba u.host, u.port, ba u.path, u.hasQ, ba u.query, u.hasF, ba u.frag, 0, rfl, Lib.hid (.inr ⟨rfl, rfl⟩), .inr rfl⟩
end Go.Proofs.YtcmcopieagpppaaGreatDoor.P
namespace Go.Proofs.YtcmcopieagpppaaGreatDoor.P
open Go.RowKit Go.Proofs.YtcmcopieagpppaaGreatDoorW.PrintWords Go.Proofs.YtcmcopieagpppaaGreatDoorW.PrintLast Go.Proofs.YtcmcopieagpppaaGreatDoorW.PrintMore
set_option linter.unusedVariables false
set_option linter.unusedSimpArgs false
theorem tmod_cases (k n : Int) (hn : 0 < n) : (0 ≤ k.tmod n ∧ k.tmod n < n ∧ k % n = k.tmod n) ∨ (k.tmod n < 0 ∧ -n < k.tmod n ∧ k % n = k.tmod n + n) := by
  have h1 := Int.emod_nonneg k (show n ≠ 0 by omega)
  have h2 := Int.emod_lt_of_pos k hn
  rcases Int.lt_or_le k 0 with hk | hk
  · have e : k.tmod n = -((-k) % n) := by
      rw [← Int.neg_neg k, Int.neg_tmod, Int.tmod_eq_emod_of_nonneg (by omega), Int.neg_neg]
    have h3 := Int.emod_nonneg (-k) (show n ≠ 0 by omega)
    have h4 := Int.emod_lt_of_pos (-k) hn
    have hs : k % n = (-((-k) % n)) % n := by
      rw [← e]
      have hk2 := Int.mul_tdiv_add_tmod k n
      conv => lhs; rw [← hk2]
      rw [Int.add_comm, Int.add_mul_emod_self_left]
    by_cases z : (-k) % n = 0
    · left
      rw [e, z]
      rw [z] at hs
      simp at hs
      exact ⟨by omega, by omega, by simpa using hs⟩
    · right
      rw [e]
      refine ⟨by omega, by omega, ?_⟩
      rw [hs, ← Int.add_emod_right, Int.emod_eq_of_lt (by omega) (by omega)]
  · left
    rw [Int.tmod_eq_emod_of_nonneg hk]
    exact ⟨h1, h2, rfl⟩
set_option maxRecDepth 100000 in
theorem round_c (k n : Int) (w : World) (hn : 0 < n) (hn2 : n ≤ 4611686018427387904) :
    Calls Tryz.prog 31 #[.int .i64 k, .int .i64 n] w fun e w' => e = .returned (.int .i64 (k % n)) ∧ w = w' := by
  rcases tmod_cases k n hn with ⟨h1, h2, h3⟩ | ⟨h1, h2, h3⟩
  · rw [h3]
    clear h3
    have h1' : decide (k.tmod n < 0) = false := decide_eq_false (by omega)
    go_enter Tryz.func31, Tryz.ntmps31
    go_wp2_with fail
    go_ret
    exact ⟨rfl, rfl⟩
  · rw [h3]
    clear h3
    have h1' : decide (k.tmod n < 0) = true := decide_eq_true (by omega)
    go_enter Tryz.func31, Tryz.ntmps31
    go_wp2_with fail
    go_ret
    exact ⟨rfl, rfl⟩
end Go.Proofs.YtcmcopieagpppaaGreatDoor.P
namespace Go.Proofs.YtcmcopieagpppaaGreatDoor.P
open Go.RowKit Go.Proofs.YtcmcopieagpppaaGreatDoorW.PrintWords Go.Proofs.YtcmcopieagpppaaGreatDoorW.PrintLast Go.Proofs.YtcmcopieagpppaaGreatDoorW.PrintMore
set_option linter.unusedVariables false
set_option linter.unusedSimpArgs false
theorem UK.set0 {w : World} {g : Nat} {x0 x1 x2 x3 : ByteArray} {x4 : Int} {x5 : ByteArray} {x6 : Bool} {x7 : ByteArray} {x8 : Bool} {x9 : ByteArray} (h : UK w g x0 x1 x2 x3 x4 x5 x6 x7 x8 x9) (y : ByteArray) : UK (w.setCell ⟨g, 0, none⟩ (.string y)) g y x1 x2 x3 x4 x5 x6 x7 x8 x9 := blk_put h 0 _ rfl
theorem UK.set1 {w : World} {g : Nat} {x0 x1 x2 x3 : ByteArray} {x4 : Int} {x5 : ByteArray} {x6 : Bool} {x7 : ByteArray} {x8 : Bool} {x9 : ByteArray} (h : UK w g x0 x1 x2 x3 x4 x5 x6 x7 x8 x9) (y : ByteArray) : UK (w.setCell ⟨g, 1, none⟩ (.string y)) g x0 y x2 x3 x4 x5 x6 x7 x8 x9 := blk_put h 1 _ rfl
theorem UK.set2 {w : World} {g : Nat} {x0 x1 x2 x3 : ByteArray} {x4 : Int} {x5 : ByteArray} {x6 : Bool} {x7 : ByteArray} {x8 : Bool} {x9 : ByteArray} (h : UK w g x0 x1 x2 x3 x4 x5 x6 x7 x8 x9) (y : ByteArray) : UK (w.setCell ⟨g, 2, none⟩ (.string y)) g x0 x1 y x3 x4 x5 x6 x7 x8 x9 := blk_put h 2 _ rfl
theorem UK.set3 {w : World} {g : Nat} {x0 x1 x2 x3 : ByteArray} {x4 : Int} {x5 : ByteArray} {x6 : Bool} {x7 : ByteArray} {x8 : Bool} {x9 : ByteArray} (h : UK w g x0 x1 x2 x3 x4 x5 x6 x7 x8 x9) (y : ByteArray) : UK (w.setCell ⟨g, 3, none⟩ (.string y)) g x0 x1 x2 y x4 x5 x6 x7 x8 x9 := blk_put h 3 _ rfl
theorem UK.set4 {w : World} {g : Nat} {x0 x1 x2 x3 : ByteArray} {x4 : Int} {x5 : ByteArray} {x6 : Bool} {x7 : ByteArray} {x8 : Bool} {x9 : ByteArray} (h : UK w g x0 x1 x2 x3 x4 x5 x6 x7 x8 x9) (y : Int) : UK (w.setCell ⟨g, 4, none⟩ (.int .i64 y)) g x0 x1 x2 x3 y x5 x6 x7 x8 x9 := blk_put h 4 _ rfl
theorem UK.set5 {w : World} {g : Nat} {x0 x1 x2 x3 : ByteArray} {x4 : Int} {x5 : ByteArray} {x6 : Bool} {x7 : ByteArray} {x8 : Bool} {x9 : ByteArray} (h : UK w g x0 x1 x2 x3 x4 x5 x6 x7 x8 x9) (y : ByteArray) : UK (w.setCell ⟨g, 5, none⟩ (.string y)) g x0 x1 x2 x3 x4 y x6 x7 x8 x9 := blk_put h 5 _ rfl
theorem UK.set6 {w : World} {g : Nat} {x0 x1 x2 x3 : ByteArray} {x4 : Int} {x5 : ByteArray} {x6 : Bool} {x7 : ByteArray} {x8 : Bool} {x9 : ByteArray} (h : UK w g x0 x1 x2 x3 x4 x5 x6 x7 x8 x9) (y : Bool) : UK (w.setCell ⟨g, 6, none⟩ (.bool y)) g x0 x1 x2 x3 x4 x5 y x7 x8 x9 := blk_put h 6 _ rfl
theorem UK.set7 {w : World} {g : Nat} {x0 x1 x2 x3 : ByteArray} {x4 : Int} {x5 : ByteArray} {x6 : Bool} {x7 : ByteArray} {x8 : Bool} {x9 : ByteArray} (h : UK w g x0 x1 x2 x3 x4 x5 x6 x7 x8 x9) (y : ByteArray) : UK (w.setCell ⟨g, 7, none⟩ (.string y)) g x0 x1 x2 x3 x4 x5 x6 y x8 x9 := blk_put h 7 _ rfl
theorem UK.set8 {w : World} {g : Nat} {x0 x1 x2 x3 : ByteArray} {x4 : Int} {x5 : ByteArray} {x6 : Bool} {x7 : ByteArray} {x8 : Bool} {x9 : ByteArray} (h : UK w g x0 x1 x2 x3 x4 x5 x6 x7 x8 x9) (y : Bool) : UK (w.setCell ⟨g, 8, none⟩ (.bool y)) g x0 x1 x2 x3 x4 x5 x6 x7 y x9 := blk_put h 8 _ rfl
theorem UK.set9 {w : World} {g : Nat} {x0 x1 x2 x3 : ByteArray} {x4 : Int} {x5 : ByteArray} {x6 : Bool} {x7 : ByteArray} {x8 : Bool} {x9 : ByteArray} (h : UK w g x0 x1 x2 x3 x4 x5 x6 x7 x8 x9) (y : ByteArray) : UK (w.setCell ⟨g, 9, none⟩ (.string y)) g x0 x1 x2 x3 x4 x5 x6 x7 x8 y := blk_put h 9 _ rfl
theorem UK.put {w : World} {g : Nat} {x0 x1 x2 x3 : ByteArray} {x4 : Int} {x5 : ByteArray} {x6 : Bool} {x7 : ByteArray} {x8 : Bool} {x9 : ByteArray} (h : UK w g x0 x1 x2 x3 x4 x5 x6 x7 x8 x9) (y0 y1 y2 y3 : ByteArray) (y4 : Int) (y5 : ByteArray) (y6 : Bool) (y7 : ByteArray) (y8 : Bool) (y9 : ByteArray) : UK ((((((((((w.setCell ⟨g, 0, none⟩ (.string y0)).setCell ⟨g, 1, none⟩ (.string y1)).setCell ⟨g, 2, none⟩ (.string y2)).setCell ⟨g, 3, none⟩ (.string y3)).setCell ⟨g, 4, none⟩ (.int .i64 y4)).setCell ⟨g, 5, none⟩ (.string y5)).setCell ⟨g, 6, none⟩ (.bool y6)).setCell ⟨g, 7, none⟩ (.string y7)).setCell ⟨g, 8, none⟩ (.bool y8)).setCell ⟨g, 9, none⟩ (.string y9)) g y0 y1 y2 y3 y4 y5 y6 y7 y8 y9 :=
  ((((((((((h.set0 y0).set1 y1).set2 y2).set3 y3).set4 y4).set5 y5).set6 y6).set7 y7).set8 y8).set9 y9)
theorem UK.frozens {w : World} {g : Nat} {x0 x1 x2 x3 : ByteArray} {x4 : Int} {x5 : ByteArray} {x6 : Bool} {x7 : ByteArray} {x8 : Bool} {x9 : ByteArray} (h : UK w g x0 x1 x2 x3 x4 x5 x6 x7 x8 x9) : w.frozen? ⟨g, 0, none⟩ = false ∧ w.frozen? ⟨g, 1, none⟩ = false ∧ w.frozen? ⟨g, 2, none⟩ = false ∧ w.frozen? ⟨g, 3, none⟩ = false ∧ w.frozen? ⟨g, 4, none⟩ = false ∧ w.frozen? ⟨g, 5, none⟩ = false ∧ w.frozen? ⟨g, 6, none⟩ = false ∧ w.frozen? ⟨g, 7, none⟩ = false ∧ w.frozen? ⟨g, 8, none⟩ = false ∧ w.frozen? ⟨g, 9, none⟩ = false :=
  ⟨blk_frozen h 0, blk_frozen h 1, blk_frozen h 2, blk_frozen h 3, blk_frozen h 4, blk_frozen h 5, blk_frozen h 6, blk_frozen h 7, blk_frozen h 8, blk_frozen h 9⟩
set_option maxRecDepth 100000 in
set_option maxHeartbeats 4000000 in
theorem urlBlanks_walk (s : ByteArray) (k c : Int) (w : World) (hT : Tabs w) (hm : s.size ≤ 140737488351232) (hk : (Lit.int .i64 k).wf = true) (hc : (Lit.int .i64 c).wf = true) : Calls Tryz.prog 7 #[.string s, .int .i64 k, .int .i64 c] w fun e w' => e = .returned (.bool true) ∧ Below w.heap.size w w' := by
  have HT := Lib.hid hT
  have heq := url_eql
  clear hT hk hc
  by_cases c1 : 3000 < s.size
  · have c1' : decide (3000 < (s.size : Int)) = true := decide_eq_true (by omega)
    go_enter Tryz.func7, Tryz.ntmps7
    go_wp2_with fail
    refine (awake11 _ HT.out).mono ?_
    rintro e w1 ⟨rfl, b1⟩
    have B1 := Lib.hid b1
    clear b1
    go_wp2_with fail
    go_ret
    exact ⟨rfl, B1.out⟩
  · have c1' : decide (3000 < (s.size : Int)) = false := decide_eq_false (by omega)
    obtain ⟨x0, x1, x2, x3, x4, x5, x6, x7, x8, x9, n, eo, -, hn⟩ := urlR_open (Web.parse (bs s))
    have P1 := Lib.hid (fun W (h : Tabs W) => url_parse_walk s W h)
    rw [eo] at P1
    have EO := Lib.hid eo
    clear eo
    have hnn : (n == n) = true := by simp
    obtain ⟨q, hq⟩ : ∃ q : Nat, k % ((s.size : Int) + 1) = (q : Int) := ⟨(k % ((s.size : Int) + 1)).toNat, by have := Int.emod_nonneg k (show ((s.size : Int) + 1) ≠ 0 by omega); omega⟩
    have hq2 : q ≤ s.size := by have := Int.emod_lt_of_pos k (show (0 : Int) < (s.size : Int) + 1 by omega); omega
    have RK := Lib.hid (fun W => round_c k ((s.size : Int) + 1) W (by omega) (by omega))
    rw [hq] at RK
    have hi : c % 3 = 0 ∨ c % 3 = 1 ∨ c % 3 = 2 := by omega
    obtain ⟨i, hi2⟩ : ∃ i, c % 3 = i := ⟨_, rfl⟩
    rw [hi2] at hi
    have RC := Lib.hid (fun W => round_c c 3 W (by omega) (by omega))
    rw [hi2] at RC
    clear hq hi2
    go_enter Tryz.func7, Tryz.ntmps7
    go_wp2_with fail
    refine (P1.out _ HT.out).mono ?_
    rintro e w1 ⟨rfl, b1⟩
    have B1 := Lib.hid b1
    have T1 := Lib.hid (HT.out.below b1)
    clear b1 HT P1
    go_upto_region 4 with (fail)
    obtain ⟨w2, g2, ew, eg, K2, B2, T2, -⟩ := UK.make x0 x1 x2 x3 x4 x5 x6 x7 x8 x9 B1.out T1.out
    rw [ew, eg]
    clear ew eg B1 T1
    go_wp2_with fail
    refine (RK.out _).mono ?_
    rintro e w3 ⟨rfl, rfl⟩
    go_upto_region 5 with (fail)
    go_cut [9, 1] (fun v9 v1 wc => v1 = .int .i64 (q : Int) ∧ ∃ b : UInt8, v9 = .string ⟨#[b]⟩ ∧ Hid (Web.tabbed b = true) ∧ Hid (UK wc g2 x0 x1 x2 x3 x4 x5 x6 x7 x8 x9) ∧ Hid (Below w.heap.size w wc) ∧ Hid (Tabs wc))
    case first =>
      go_wp2_with fail
      refine (RC.out _).mono ?_
      rintro e w4 ⟨rfl, rfl⟩
      have b3 := below_alloc (Below.refl w2.heap.size w2) (.cells #[.int .u8 9, .int .u8 10, .int .u8 13] 5 (0, 0))
      have K3 := Lib.hid (K2.out.below b3)
      have B3 := Lib.hid (below_step B2.out b3)
      have T3 := Lib.hid (T2.out.below b3)
      have S3 := Lib.hid (heap_alloc_new w2 (.cells #[.int .u8 9, .int .u8 10, .int .u8 13] 5 (0, 0)))
      have hsz3 : w2.heap.size < (w2.alloc (.cells #[.int .u8 9, .int .u8 10, .int .u8 13] 5 (0, 0))).heap.size := by simp
      generalize w2.alloc (.cells #[.int .u8 9, .int .u8 10, .int .u8 13] 5 (0, 0)) = w3 at K3 B3 T3 S3 hsz3 ⊢
      have m0 := (blk_cell S3.out 0).trans rfl
      have m1 := (blk_cell S3.out 1).trans rfl
      have m2 := (blk_cell S3.out 2).trans rfl
      clear b3 K2 B2 T2
      generalize w2.heap.size = g3 at m0 m1 m2 ⊢
      have hcv := fun (b : UInt8) => string_of_reads (P := Tryz.prog) (src := 46) (dst := 9) (c := 1) Tryz.underlying46 Tryz.underlying5 Tryz.underlying9 (read_one w3 (b.toNat : Int))
      have h9 : (convert 46 9 (.slice (some ⟨w3.heap.size, 0, none⟩) 1 1)).run Tryz.prog (w3.alloc (.cells #[.int .u8 9] 5)) = .ok (.string ⟨#[9]⟩) (w3.alloc (.cells #[.int .u8 9] 5)) := hcv 9
      have h10 : (convert 46 9 (.slice (some ⟨w3.heap.size, 0, none⟩) 1 1)).run Tryz.prog (w3.alloc (.cells #[.int .u8 10] 5)) = .ok (.string ⟨#[10]⟩) (w3.alloc (.cells #[.int .u8 10] 5)) := hcv 10
      have h13 : (convert 46 9 (.slice (some ⟨w3.heap.size, 0, none⟩) 1 1)).run Tryz.prog (w3.alloc (.cells #[.int .u8 13] 5)) = .ok (.string ⟨#[13]⟩) (w3.alloc (.cells #[.int .u8 13] 5)) := hcv 13
      clear hcv
      rcases hi with rfl | rfl | rfl
      · have b4 := below_alloc (Below.refl w3.heap.size w3) (.cells #[.int .u8 9] 5 (0, 0))
        go_wp2_with fail
        go_meet
        case rel => exact ⟨rfl, 9, rfl, Lib.hid rfl, Lib.hid (K3.out.below b4), Lib.hid (below_step B3.out b4), Lib.hid (T3.out.below b4)⟩
      · have b4 := below_alloc (Below.refl w3.heap.size w3) (.cells #[.int .u8 10] 5 (0, 0))
        go_wp2_with fail
        go_meet
        case rel => exact ⟨rfl, 10, rfl, Lib.hid rfl, Lib.hid (K3.out.below b4), Lib.hid (below_step B3.out b4), Lib.hid (T3.out.below b4)⟩
      · have b4 := below_alloc (Below.refl w3.heap.size w3) (.cells #[.int .u8 13] 5 (0, 0))
        go_wp2_with fail
        go_meet
        case rel => exact ⟨rfl, 13, rfl, Lib.hid rfl, Lib.hid (K3.out.below b4), Lib.hid (below_step B3.out b4), Lib.hid (T3.out.below b4)⟩
    case rest =>
      obtain ⟨rfl, b, rfl, HB, K5, B5, T5⟩ := hcut
      obtain ⟨wb, rfl⟩ : ∃ wo : World, wo = wc := ⟨_, rfl⟩
      clear K2 B2 T2
      have hq1 : (0 : Int) ≤ (q : Int) := by omega
      have hq3 : (q : Int) ≤ (s.size : Int) := by omega
      have y1 : (⟨#[b]⟩ : ByteArray).size = 1 := rfl
      obtain ⟨s2, hs2⟩ : ∃ x, s.extract 0 q ++ (⟨#[b]⟩ : ByteArray) ++ s.extract q s.size = x := ⟨_, rfl⟩
      obtain ⟨y0, y1, y2, y3, y4, y5, y6, y7, y8, y9, m, eo2, -, hm2⟩ := urlR_open (Web.parse (bs s2))
      have P2 := Lib.hid (fun W (h : Tabs W) => url_parse_walk s2 W h)
      rw [eo2] at P2
      have EO2 := Lib.hid eo2
      have TB := Lib.hid (fun W (h : Below wb.heap.size wb W) => T5.out.below h)
      have HS2 := Lib.hid hs2
      clear eo2 hs2
      go_upto_region 6 with (fail)
      go_cut [10, 11] (fun v10 v11 wd => ∃ g10 : Nat, v10 = .pointer (some ⟨g10, 0, none⟩) ∧ v11 = .int .i64 m ∧ Hid (UK wd g10 y0 y1 y2 y3 y4 y5 y6 y7 y8 y9) ∧ Hid (Below wb.heap.size wb wd))
      case first =>
        have hs2' : s.extract 0 q ++ (⟨#[b]⟩ : ByteArray) ++ s.extract q s.size = s2 := HS2.out
        go_region_with (go_at_call 22; refine (P2.out _ (TB.out _ (by first | exact below_drew (Below.refl _ _) | exact below_drew (below_alloc (Below.refl _ _) _)))).mono ?_; rintro e w6 ⟨rfl, hb⟩; have HB6 := Lib.hid hb; (first | (have KZ := Lib.hid (show UK w6 wb.heap.size ⟨#[]⟩ ⟨#[]⟩ ⟨#[]⟩ ⟨#[]⟩ 0 ⟨#[]⟩ false ⟨#[]⟩ false ⟨#[]⟩ from blk_below (blk_drew (heap_alloc_new wb _)) hb); obtain ⟨zc0, zc1, zc2, zc3, zc4, zc5, zc6, zc7, zc8, zc9⟩ := KZ.out.cells; obtain ⟨zf0, zf1, zf2, zf3, zf4, zf5, zf6, zf7, zf8, zf9⟩ := KZ.out.frozens) | skip); clear hb)
        all_goals go_simp
        all_goals go_wp2_with fail
        all_goals go_meet
        all_goals
          (case rel => first
            | exact ⟨wb.heap.size, rfl, rfl, Lib.hid (KZ.out.put y0 y1 y2 y3 y4 y5 y6 y7 y8 y9), Lib.hid (put10 (below_step (below_drew (below_alloc (Below.refl _ _) _)) HB6.out) (Nat.le_refl _))⟩
            | exact ⟨_, rfl, rfl, Lib.hid (heap_alloc_new w6 _), Lib.hid (below_alloc (below_step (below_drew (Below.refl _ _)) HB6.out) _)⟩)
      case rest =>
        obtain ⟨g10, rfl, rfl, K10, BW⟩ := hcut
        have K6 := Lib.hid (K5.out.below BW.out)
        have B6 := Lib.hid (below_step B5.out BW.out)
        have T6 := Lib.hid (T5.out.below BW.out)
        have y2 : (⟨#[32, 1]⟩ : ByteArray).size = 2 := rfl
        have y3 : (⟨#[9, 32]⟩ : ByteArray).size = 2 := rfl
        have P3 := Lib.hid (fun W (h : Tabs W) => url_parse_walk ((⟨#[32, 1]⟩ ++ s) ++ ⟨#[9, 32]⟩) W h)
        have e3 : Web.parse (bs ((⟨#[32, 1]⟩ ++ s) ++ ⟨#[9, 32]⟩ : ByteArray)) = Web.parse (bs s) := by
          rw [bs_app, bs_app]
          exact parse_around [32, 1] (bs s) [9, 32] (by decide) (by decide) (by simp only [List.length_append, List.length_cons, List.length_nil, bs_len]; omega)
        rw [e3, EO.out] at P3
        clear e3 K5 B5 T5 BW P2 TB
        go_wp2_with fail
        refine (P3.out _ T6.out).mono ?_
        rintro e w7 ⟨rfl, b7⟩
        have B7 := Lib.hid (below_step B6.out b7)
        have T7 := Lib.hid (T6.out.below b7)
        have K7 := Lib.hid (K6.out.below b7)
        have J7 := Lib.hid (K10.out.below b7)
        clear b7 K6 B6 T6 K10 P3
        go_upto_region 8 with (fail)
        obtain ⟨w8, g8, ew, eg, L8, B8, T8, b8⟩ := UK.make x0 x1 x2 x3 x4 x5 x6 x7 x8 x9 B7.out T7.out
        rw [ew, eg]
        have K8 := Lib.hid (K7.out.below b8)
        have J8 := Lib.hid (J7.out.below b8)
        clear ew eg B7 T7 b8 K7 J7
        go_wp2_with fail
        refine (ref_utf8_c (s.extract 0 q) _ (by rw [ByteArray.size_extract]; omega)).mono ?_
        rintro e w9 ⟨rfl, d9⟩
        have B9 := Lib.hid (below_step B8.out d9.below)
        have T9 := Lib.hid (T8.out.below d9.below)
        have K9 := Lib.hid (K8.out.below d9.below)
        have J9 := Lib.hid (J8.out.below d9.below)
        have L9 := Lib.hid (L8.out.below d9.below)
        clear d9 K8 J8 L8 B8 T8
        by_cases hv : Lib.validD (bs (s.extract 0 q)) = true
        · have es : Web.parse (bs s2) = Web.parse (bs s) := by
            have e0 : bs s2 = (bs s).take q ++ [b] ++ (bs s).drop q := by
              rw [← HS2.out, bs_app, bs_app, bs_head, bs_rest]
              rfl
            rw [bs_head] at hv
            rw [e0, parse_tab _ _ b HB.out hv (by rw [List.take_append_drop, bs_len]; omega), List.take_append_drop]
          have ee := EO2.out
          rw [es, EO.out] at ee
          injection ee with ee
          have ee2 := congrArg Array.toList ee
          simp only [List.cons.injEq, Value.agg.injEq, Value.int.injEq, and_true, true_and] at ee2
          obtain ⟨eA, rfl⟩ := ee2
          have eB := congrArg Array.toList eA
          simp only [List.cons.injEq, Value.string.injEq, Value.int.injEq, Value.bool.injEq, and_true, true_and] at eB
          obtain ⟨rfl, rfl, rfl, rfl, rfl, rfl, rfl, rfl, rfl, rfl⟩ := eB
          rw [hv]
          clear hv es ee eA EO EO2
          obtain ⟨zc0, zc1, zc2, zc3, zc4, zc5, zc6, zc7, zc8, zc9⟩ := K9.out.cells
          obtain ⟨zd0, zd1, zd2, zd3, zd4, zd5, zd6, zd7, zd8, zd9⟩ := J9.out.cells
          obtain ⟨ze0, ze1, ze2, ze3, ze4, ze5, ze6, ze7, ze8, ze9⟩ := L9.out.cells
          go_wp2_with fail
          refine (awake11 _ T9.out).mono ?_
          rintro e wz ⟨rfl, bz⟩
          have BZ := Lib.hid (below_step B9.out bz)
          clear bz
          go_wp2_with fail
          go_ret
          exact ⟨rfl, BZ.out⟩
        · rw [Bool.eq_false_iff.2 hv]
          clear hv EO EO2
          obtain ⟨zc0, zc1, zc2, zc3, zc4, zc5, zc6, zc7, zc8, zc9⟩ := K9.out.cells
          obtain ⟨ze0, ze1, ze2, ze3, ze4, ze5, ze6, ze7, ze8, ze9⟩ := L9.out.cells
          go_wp2_with fail
          refine (awake11 _ T9.out).mono ?_
          rintro e wz ⟨rfl, bz⟩
          have BZ := Lib.hid (below_step B9.out bz)
          clear bz
          go_wp2_with fail
          go_ret
          exact ⟨rfl, BZ.out⟩
end Go.Proofs.YtcmcopieagpppaaGreatDoor.P
namespace Go.Proofs.YtcmcopieagpppaaGreatDoor.P
open Go.RowKit Go.Proofs.YtcmcopieagpppaaGreatDoorW.PrintWords Go.Proofs.YtcmcopieagpppaaGreatDoorW.PrintLast Go.Proofs.YtcmcopieagpppaaGreatDoorW.PrintMore
attribute [local go_sem] max2_int min2_int max_two min_two max_three min_three max_four min_four
set_option linter.unusedVariables false
set_option linter.unusedSimpArgs false
def parapetalike_Total.l0 : Nat → List ByteArray → Int → Int → Int → Option (Int)
  | 0, _, _, _, _ => none
  | k + 1, x0, x1, x5, x6 => if x6 < (x0.length : Int) then (if x5 ≤ x1 then (if 0 ≤ x6 then (parapetalike_Total.l0 k x0 x1 (wrap64 (x5 + ((rdOf ByteArray.empty x0 x6).size : Int))) (wrap64 (x6 + 1))) else (none)) else (some x5)) else (some x5)
def parapetalike_Total.f (k : Nat) (l0 : List ByteArray) (a1 : Int) : Option (Int) := parapetalike_Total.l0 k l0 a1 (l0.length : Int) 0
set_option maxHeartbeats 8000000 in
set_option maxRecDepth 100000 in
theorem parapetalike_Total.calls (k : Nat) (A0 : Option Addr) (c0 : Nat) (l0 : List ByteArray) (a1 : Int) (r : Int) (w : World) (hr0 : Kd.C Kd.string w A0 l0.length l0) (hc0 : l0.length ≤ c0) (h : parapetalike_Total.f k l0 a1 = some r) :
    Calls Tryz.prog 17 #[.slice A0 l0.length c0, .int .i64 a1] w fun e w' => e = .returned (.int .i64 r) ∧ Drawn0 w w' := by
  have HR0 := Aside0.mk hr0
  have HC0 := Aside0.mk hc0
  clear hr0 hc0
  have H : (parapetalike_Total.l0 k l0 a1 (l0.length : Int) 0) = some r := h
  clear h
  have H' := Aside0.mk H
  clear H
  go_enter Tryz.func17, Tryz.ntmps17
  go_wp2
  go_loopg [5, 6] k (fun kq v5 v6 w' => ∃ (x5_1 : Int) (x6_1 : Int), v5 = .int .i64 x5_1 ∧ v6 = .int .i64 x6_1 ∧ Aside0 (parapetalike_Total.l0 kq l0 a1 x5_1 x6_1 = some r) ∧ Aside0 (kq ≤ k) ∧ Drawn0 w w')
  case atStart => exact ⟨((l0.length : Int)), (0), (by first | rfl | (simp; done) | (simp [*]; done)), (by first | rfl | (simp; done) | (simp [*]; done)), H', ⟨Nat.le_refl _⟩, by repeat (first | exact Drawn0.refl _ | apply Drawn0.step)⟩
  case round =>
    clear H'
    try clear c1
    try clear p2
    obtain ⟨x5_1, x6_1, rfl, rfl, HA, HK1, ⟨m1, rfl⟩⟩ := hrel
    cases gk with
    | zero => exact absurd HA.out (by simp [parapetalike_Total.l0])
    | succ k1 =>
      have H := HA.out
      clear HA
      simp only [parapetalike_Total.l0] at H
      by_cases c3 : x6_1 < (l0.length : Int)
      · rw [if_pos c3] at H
        have c3b0 : decide (x6_1 < (l0.length : Int)) = true := decide_eq_true c3
        clear c3
        by_cases c4 : x5_1 ≤ a1
        · rw [if_pos c4] at H
          have c4b0 : decide (x5_1 ≤ a1) = true := decide_eq_true c4
          clear c4
          by_cases c5 : 0 ≤ x6_1
          · rw [if_pos c5] at H
            have c5b0 : decide (0 ≤ x6_1) = true := decide_eq_true c5
            clear c5
            have H' := Aside0.mk H
            clear H
            have p407 : 0 ≤ (x6_1 : Int) := of_decide_eq_true (by first | (with_reducible assumption) | assumption)
            have q407 : x6_1 < (l0.length : Int) := of_decide_eq_true (by first | (with_reducible assumption) | assumption)
            obtain ⟨ad407, e407, hx407_0⟩ := Kd.at_string HR0.out x6_1 p407 q407
            cases e407
            replace p407 := eq_true p407
            replace q407 := eq_true q407
            go_wp2
            go_roundg k1
            case measure => have := HK1.out; omega
            case rel => exact ⟨(wrap64 (x5_1 + ((rdOf ByteArray.empty l0 x6_1).size : Int))), (wrap64 (x6_1 + 1)), (by first | rfl | (simp; done) | (simp [*]; done)), (by first | rfl | (simp; done) | (simp [*]; done)), H', ⟨by have := HK1.out; omega⟩, by repeat (first | exact Drawn0.refl _ | apply Drawn0.step)⟩
          · rw [if_neg c5] at H
            exact absurd H (by simp)
        · rw [if_neg c4] at H
          have c4b0 : decide (x5_1 ≤ a1) = false := decide_eq_false c4
          clear c4
          obtain rfl := Option.some.inj H
          go_wp2
          go_ret
          exact ⟨by first | rfl | (simp; done) | (simp [*]; done), by repeat (first | exact Drawn0.refl _ | apply Drawn0.step)⟩
      · rw [if_neg c3] at H
        have c3b0 : decide (x6_1 < (l0.length : Int)) = false := decide_eq_false c3
        clear c3
        obtain rfl := Option.some.inj H
        go_wp2
        go_ret
        exact ⟨by first | rfl | (simp; done) | (simp [*]; done), by repeat (first | exact Drawn0.refl _ | apply Drawn0.step)⟩
end Go.Proofs.YtcmcopieagpppaaGreatDoor.P
namespace Go.Proofs.YtcmcopieagpppaaGreatDoor.P
open Go.RowKit Go.Proofs.YtcmcopieagpppaaGreatDoorW.PrintWords Go.Proofs.YtcmcopieagpppaaGreatDoorW.PrintLast Go.Proofs.YtcmcopieagpppaaGreatDoorW.PrintMore
set_option linter.unusedVariables false
set_option linter.unusedSimpArgs false
theorem total_some (l : List ByteArray) (a : Int) (hl : l.length ≤ 4611686018427387904) : ∀ (d i k : Nat) (n : Int), i + d = l.length → d < k → ∃ r, parapetalike_Total.l0 k l a n (i : Int) = some r := by
  intro d
  induction d with
  | zero =>
    intro i k n hi hk
    obtain ⟨k, rfl⟩ : ∃ j, k = j + 1 := ⟨k - 1, by omega⟩
    simp only [parapetalike_Total.l0]
    rw [if_neg (by omega)]
    exact ⟨_, rfl⟩
  | succ d ih =>
    intro i k n hi hk
    obtain ⟨k, rfl⟩ : ∃ j, k = j + 1 := ⟨k - 1, by omega⟩
    simp only [parapetalike_Total.l0]
    rw [if_pos (by omega)]
    split
    · rw [if_pos (by omega)]
      have hw : wrap64 ((i : Int) + 1) = ((i + 1 : Nat) : Int) := by unfold wrap64; omega
      rw [hw]
      exact ih (i + 1) k _ (by omega) (by omega)
    · exact ⟨_, rfl⟩
theorem total_c (l : List ByteArray) (a : Int) (hl : l.length ≤ 4611686018427387904) : ∃ r : Int, ∀ (A : Option Addr) (c : Nat) (w : World), Kd.C Kd.string w A l.length l → l.length ≤ c → Calls Tryz.prog 17 #[.slice A l.length c, .int .i64 a] w fun e w' => e = .returned (.int .i64 r) ∧ Drawn0 w w' := by
  obtain ⟨r, hr⟩ := total_some l a hl l.length 0 (l.length + 1) (l.length : Int) (by omega) (by omega)
  exact ⟨r, fun A c w hC hc => parapetalike_Total.calls (l.length + 1) A c l a r w hC hc hr⟩
theorem C_below {w w1 : World} {A : Option Addr} {l : List ByteArray} (h : Kd.C Kd.string w A l.length l) (hb : Below w.heap.size w w1) : ∀ i : Nat, i < l.length → ∃ ad : Addr, A = some ad ∧ w1.cell? (ad.add i) = some (.string (l.getD i ByteArray.empty)) := by
  intro i hi
  obtain ⟨ad, e0, hx⟩ := Kd.at_string h (i : Int) (by omega) (by omega)
  rw [Int.toNat_natCast] at hx
  refine ⟨ad, e0, ?_⟩
  rw [hb.cell (World.block_lt_of_cell? w _ hx), hx]
  unfold rdOf
  rw [Int.toNat_natCast]
def codes (l : List ByteArray) : List Nat := l.map fun x => x.size % 4
theorem codes_take (l : List ByteArray) (i : Nat) (h : i < l.length) : (codes l).take (i + 1) = (codes l).take i ++ [(l.getD i ByteArray.empty).size % 4] := by
  have hl : i < (codes l).length := by unfold codes; rw [List.length_map]; exact h
  rw [List.take_add_one, List.getElem?_eq_getElem hl]
  unfold codes
  simp only [List.getD_eq_getElem?_getD, List.getElem?_eq_getElem h, Option.getD_some, Option.toList_some]
  exact congrArg (fun x => _ ++ [x]) (List.getElem_map _)
theorem wantN_snoc (ks : List Nat) (k : Nat) : wantN (ks ++ [k]) = stepN (wantN ks) k := by unfold wantN; rw [List.foldl_append]; rfl
theorem lastX_snoc (ks : List Nat) (k : Nat) : lastX (ks ++ [k]) = decide (k ≠ 1 ∧ k ≠ 2) := by unfold lastX; rw [List.getLast?_append]; rfl
theorem dotText_snoc (ks : List Nat) (k : Nat) : dotText (ks ++ [k]) = dotText ks ++ [47] ++ pc k := by
  unfold dotText dotTail
  rw [List.flatMap_append]
  simp
theorem TabsG {w w1 : World} {row : Option Nat} {base : Nat} (h : Tabs w) (hg : w.grownBy w1 row) (hr : ∀ k, row = some k → base ≤ k) (hb : 3 ≤ base) (hb2 : base ≤ w.heap.size) : Tabs w1 :=
  TabsTo h ((Below.refl base w).grown hg hb2 hr) hb
def lastT (b : Bool) : ByteArray := if b then ⟨#[120]⟩ else ⟨#[]⟩
def xT (n : Nat) : List ByteArray := List.replicate n ⟨#[120]⟩
theorem xT_snoc (n : Nat) : xT n ++ [⟨#[120]⟩] = xT (n + 1) := by unfold xT; rw [List.replicate_succ']
theorem wantN_le : ∀ (ks : List Nat) (n : Nat), ks.foldl stepN n ≤ n + ks.length
  | [], n => Nat.le_refl _
  | k :: r, n => by
    have := wantN_le r (stepN n k)
    rw [List.foldl_cons, List.length_cons]
    have h2 : stepN n k ≤ n + 1 := by unfold stepN; split <;> (try split) <;> omega
    omega
set_option maxRecDepth 100000 in
set_option maxHeartbeats 4000000 in
theorem urlDots_walk (A : Option Addr) (c : Nat) (l : List ByteArray) (w : World) (hT : Tabs w) (hC : Kd.C Kd.string w A l.length l) (hc : l.length ≤ c) (hm : l.length ≤ 4611686018427387904) : Calls Tryz.prog 8 #[.slice A l.length c] w fun e w' => e = .returned (.bool true) ∧ Below w.heap.size w w' := by
  have HT := Lib.hid hT
  have HC := Lib.hid hC
  obtain ⟨r, hr⟩ := total_c l 3000 hm
  have TC := Lib.hid (hr A c w hC hc)
  clear hT hC hr
  by_cases c1 : 3000 < r
  · have c1' : decide (3000 < r) = true := decide_eq_true c1
    go_enter Tryz.func8, Tryz.ntmps8
    go_wp2_with (go_at_call 17; refine (TC.out).mono ?_; rintro e w1 ⟨rfl, d1⟩; have B1 := Lib.hid d1.below; have T1 := Lib.hid (HT.out.below d1.below); clear d1)
    refine (awake11 _ T1.out).mono ?_
    rintro e w2 ⟨rfl, b2⟩
    have B2 := Lib.hid (below_step B1.out b2)
    clear b2
    go_wp2_with fail
    go_ret
    exact ⟨rfl, B2.out⟩
  have c1' : decide (3000 < r) = false := decide_eq_false c1
  by_cases c2 : 60 < l.length
  · have c2' : decide ((60 : Int) < (l.length : Int)) = true := decide_eq_true (by omega)
    go_enter Tryz.func8, Tryz.ntmps8
    go_wp2_with (go_at_call 17; refine (TC.out).mono ?_; rintro e w1 ⟨rfl, d1⟩; have B1 := Lib.hid d1.below; have T1 := Lib.hid (HT.out.below d1.below); clear d1)
    refine (awake11 _ T1.out).mono ?_
    rintro e w2 ⟨rfl, b2⟩
    have B2 := Lib.hid (below_step B1.out b2)
    clear b2
    go_wp2_with fail
    go_ret
    exact ⟨rfl, B2.out⟩
  have c2' : decide ((60 : Int) < (l.length : Int)) = false := decide_eq_false (by omega)
  clear c1
  have y1 : (⟨#[104, 116, 116, 112, 58, 47, 47, 97]⟩ : ByteArray).size = 8 := rfl
  have y2 : (⟨#[47]⟩ : ByteArray).size = 1 := rfl
  have y3 : (⟨#[120]⟩ : ByteArray).size = 1 := rfl
  have y4 : (⟨#[46]⟩ : ByteArray).size = 1 := rfl
  have y5 : (⟨#[37, 50, 69, 46]⟩ : ByteArray).size = 4 := rfl
  go_enter Tryz.func8, Tryz.ntmps8
  go_wp2_with (go_at_call 17; refine (TC.out).mono ?_; rintro e w1 ⟨rfl, d1⟩; have B1 := Lib.hid d1.below; have T1 := Lib.hid (HT.out.below d1.below); clear d1)
  clear c1' c2' TC
  go_loopw [3, 4, 5, 6] (fun v3 v4 v5 v6 wr => ∃ (i : Nat) (t : ByteArray), i ≤ l.length ∧ v6 = .int .i64 (i : Int) ∧ v3 = .string t ∧ Hid (bs t = dotText ((codes l).take i)) ∧ t.size ≤ 8 + 5 * i ∧ Hid (Kd.R Kd.string 9 wr w.heap.size (fun _ => True) v4 (xT (wantN ((codes l).take i)))) ∧ v5 = .string (lastT (lastX ((codes l).take i))) ∧ Hid (Below w.heap.size w wr) ∧ Hid (Tabs wr)) (fun _ _ _ v _ => l.length - (intOf v).toNat)
  case atStart => exact ⟨0, _, by omega, rfl, rfl, Lib.hid rfl, by rw [y1]; omega, Lib.hid (Kd.R_nil _ _ _ _ _), rfl, B1, T1⟩
  case round =>
    obtain ⟨i, t, hi, rfl, rfl, HTT, ht, HR, rfl, B2, T2⟩ := hrel
    obtain ⟨wx, rfl⟩ : ∃ wo : World, wo = wr := ⟨_, rfl⟩
    have hnle := wantN_le ((codes l).take i) 0
    have hnl2 : ((codes l).take i).length ≤ i := List.length_take_le _ _
    obtain ⟨n0, hn0⟩ : ∃ n, wantN ((codes l).take i) = n := ⟨_, rfl⟩
    rw [hn0] at HR
    have hn60 : n0 ≤ 60 := by have : wantN ((codes l).take i) ≤ 0 + ((codes l).take i).length := hnle; omega
    by_cases hlt : i < l.length
    · obtain ⟨ad, rfl, hx⟩ := C_below HC.out B2.out i hlt
      have ht1 := codes_take l i hlt
      obtain ⟨xe, hxe⟩ : ∃ x, l.getD i ByteArray.empty = x := ⟨_, rfl⟩
      rw [hxe] at hx ht1
      obtain ⟨kc, hkc⟩ : ∃ k, xe.size % 4 = k := ⟨_, rfl⟩
      rw [hkc] at ht1
      have D1 := Lib.hid (by have := dotText_snoc ((codes l).take i) kc; rw [← ht1] at this; exact this)
      have N1 := Lib.hid (by have := wantN_snoc ((codes l).take i) kc; rw [← ht1, hn0] at this; exact this)
      have L1 := Lib.hid (by have := lastX_snoc ((codes l).take i) kc; rw [← ht1] at this; exact this)
      have RC := Lib.hid (fun W => round_c (xe.size : Int) 4 W (by omega) (by omega))
      have ek : (xe.size : Int) % 4 = (kc : Int) := by omega
      rw [ek] at RC
      clear hnle hnl2 hn0 hxe hkc ht1 ek
      by_cases k1 : kc = 1
      · subst k1
        have PC := Lib.hid (show pc 1 = [46] from rfl)
        have e1 : ((((1 : Nat) : Int)) == 1) = true := by decide
        have NN := Lib.hid (show stepN n0 1 = n0 from rfl)
        go_wp2_with (go_at_call 31; refine (RC.out _).mono ?_; rintro e w' ⟨rfl, rfl⟩)
        go_roundw
        case rel => exact ⟨i + 1, _, by omega, by go_num, rfl, Lib.hid (by rw [D1.out, bs_app, bs_app, HTT.out, PC.out]; simp [bs_lit]), by simp only [ByteArray.size_append, y2, y4]; omega, by rw [N1.out, NN.out]; exact HR, by rw [L1.out]; rfl, B2, T2⟩
        case measure => simp [intOf]; omega
      by_cases k2 : kc = 2
      · subst k2
        have PC := Lib.hid (show pc 2 = [37, 50, 69, 46] from rfl)
        have NN := Lib.hid (show stepN n0 2 = n0 - 1 from rfl)
        obtain ⟨A4, c4, rfl⟩ := Kd.R_slice HR.out
        have hlx : (xT n0).length = n0 := by unfold xT; rw [List.length_replicate]
        rw [hlx] at HR ⊢
        clear hlx
        by_cases z0 : n0 = 0
        · subst z0
          go_wp2_with (go_at_call 31; refine (RC.out _).mono ?_; rintro e w' ⟨rfl, rfl⟩)
          go_roundw
          case rel => exact ⟨i + 1, _, by omega, by go_num, rfl, Lib.hid (by rw [D1.out, bs_app, bs_app, HTT.out, PC.out]; simp [bs_lit]), by simp only [ByteArray.size_append, y2, y5]; omega, by rw [N1.out, NN.out]; exact HR, by rw [L1.out]; rfl, B2, T2⟩
          case measure => simp [intOf]; omega
        · have hlc : n0 ≤ c4 := by have := (Kd.R_reads' HR.out).2.1; exact this
          have hlc' : ((n0 : Nat) : Int) - 1 ≤ (c4 : Int) := by omega
          have l1 : decide (0 < ((n0 : Nat) : Int)) = true := decide_eq_true (by omega)
          have l2 : decide (0 < n0) = true := decide_eq_true (by omega)
          go_wp2_with (go_at_call 31; refine (RC.out _).mono ?_; rintro e w' ⟨rfl, rfl⟩)
          go_roundw
          case rel => exact ⟨i + 1, _, by omega, by go_num, rfl, Lib.hid (by rw [D1.out, bs_app, bs_app, HTT.out, PC.out]; simp [bs_lit]), by simp only [ByteArray.size_append, y2, y5]; omega, by
              rw [N1.out, NN.out]
              have h4 : Kd.R Kd.string 9 wx w.heap.size (fun _ => True) (.slice A4 (xT n0).length c4) (xT n0) := by unfold xT at HR ⊢; rw [List.length_replicate]; exact HR.out
              have := Kd.R_take (m := n0 - 1) h4 (by unfold xT; rw [List.length_replicate]; omega)
              have e9 : (xT n0).take (n0 - 1) = xT (n0 - 1) := by unfold xT; rw [List.take_replicate]; congr 1; omega
              rw [e9] at this
              exact Lib.hid this, by rw [L1.out]; rfl, B2, T2⟩
          case measure => simp [intOf]; omega
      · have PC := Lib.hid (show pc kc = [120] by unfold pc; rw [if_neg k1, if_neg k2])
        have e1 : (((kc : Nat) : Int) == 1) = false := by rw [beq_eq_false_iff_ne]; omega
        have e2 : (((kc : Nat) : Int) == 2) = false := by rw [beq_eq_false_iff_ne]; omega
        have NN := Lib.hid (show stepN n0 kc = n0 + 1 by unfold stepN; rw [if_neg k1, if_neg k2])
        have LL := Lib.hid (show decide (kc ≠ 1 ∧ kc ≠ 2) = true from decide_eq_true ⟨k1, k2⟩)
        have TW := Lib.hid (B2.out.size)
        clear k1 k2
        go_wp2_with (first | (go_at_call 31; refine (RC.out _).mono ?_; rintro e w' ⟨rfl, rfl⟩) | ((with_reducible refine gate_builtin (b := .append) (xs := #[.tmp 52, .tmp 53]) rfl ?_); at_builtin; refine Kd.R_append Kd.string (w0 := w) w.heap.size rfl (.tmp 52) (.tmp 53) 22 9 (.string ⟨#[]⟩) 16 rfl Tryz.underlying22 info9 rfl (by decide) (by omega) u4 (xT n0) ⟨#[120]⟩ [.string ⟨#[120]⟩] (fun _ => True) (fun _ => False) rfl rfl ?aP (fun _ hk => hk.elim) ?aF ?aO ?aB ?aS ?aL ?_; (case aP => exact rfl); (case aB => exact B2.out); (case aF => exact fun _ _ => trivial); (case aO => exact HR.out); (case aS => exact B2.out.size); (case aL => unfold xT; rw [List.length_replicate]; omega); intro v9 w9 ho hb hg9 hat; have HO := Lib.hid ho; have B9 := Lib.hid hb; have T9 := Lib.hid (TabsG T2.out hg9 (fun k hk => ((Kd.R_bound HR.out).1 k hk).2.1) HT.out.2.2 TW.out); clear ho hb hg9 hat))
        go_roundw
        case rel => exact ⟨i + 1, _, by omega, by go_num, rfl, Lib.hid (by rw [D1.out, bs_app, bs_app, HTT.out, PC.out]; simp [bs_lit]), by simp only [ByteArray.size_append, y2, y3]; omega, by rw [N1.out, NN.out, ← xT_snoc]; exact HO, by rw [L1.out, LL.out]; rfl, B9, T9⟩
        case measure => simp [intOf]; omega
    · have he : i = l.length := by omega
      have htk : (codes l).take i = codes l := List.take_of_length_le (by unfold codes; rw [List.length_map]; omega)
      rw [htk] at HTT hn0 ⊢
      have N0 := Lib.hid hn0
      clear hnle hnl2 hn0 htk
      obtain ⟨A4, c4, rfl⟩ := Kd.R_slice HR.out
      have hlx : (xT n0).length = n0 := by unfold xT; rw [List.length_replicate]
      rw [hlx] at HR ⊢
      have RD := Lib.hid (show ∀ j : Nat, j < n0 → ∃ ad : Addr, A4 = some ad ∧ wx.cell? (ad.add j) = some (.string ⟨#[120]⟩) by
        intro j hj
        have h4 : Kd.R Kd.string 9 wx w.heap.size (fun _ => True) (.slice A4 (xT n0).length c4) (xT n0) := by rw [hlx]; exact HR.out
        obtain ⟨ad, e0, hx⟩ := C_below (Kd.R_reads' h4).2.2 (Below.refl _ _) j (by rw [hlx]; exact hj)
        refine ⟨ad, e0, ?_⟩
        rw [hx]
        unfold xT
        simp [List.getD_eq_getElem?_getD, List.getElem?_replicate, hj])
      clear hlx
      subst he
      go_wp2_with fail
      go_loop [8, 9] (fun v8 v9 => ∃ (j : Nat) (t8 : ByteArray), j ≤ n0 ∧ v9 = .int .i64 (j : Int) ∧ v8 = .string t8 ∧ Hid (bs t8 = (xs j).flatMap fun s => 47 :: s) ∧ t8.size ≤ 2 * j) (fun _ v => n0 - (intOf v).toNat)
      case atStart => exact ⟨0, _, by omega, rfl, rfl, Lib.hid rfl, Nat.le_refl _⟩
      case round =>
        obtain ⟨j, t8, hj, rfl, rfl, H8, h8⟩ := hrel
        by_cases hjl : j < n0
        · obtain ⟨ad, rfl, hx⟩ := RD.out j hjl
          go_wp2_with fail
          go_round
          case rel => exact ⟨j + 1, _, by omega, by go_num, rfl, Lib.hid (by rw [bs_app, bs_app, H8.out]; unfold xs; rw [List.replicate_succ', List.flatMap_append]; simp [bs_lit]), by simp only [ByteArray.size_append, y2, y3]; omega⟩
          case measure => simp [intOf]; omega
        · obtain rfl : j = n0 := by omega
          obtain ⟨u, hu, hup⟩ := dots_parse (codes l) (by unfold codes; rw [List.length_map]; omega)
          have P1 := Lib.hid (fun W (h : Tabs W) => url_parse_walk t W h)
          rw [HTT.out, hu] at P1
          obtain ⟨x5, hx5⟩ : ∃ x, x = ba u.path := ⟨_, rfl⟩
          have P1 : Hid (∀ W, Tabs W → Calls Tryz.prog 22 #[.string t] W fun e w' => e = .returned (.tuple #[.agg #[.string (ba u.scheme), .string (ba u.user), .string (ba u.pass), .string (ba u.host), .int .i64 u.port, .string x5, .bool u.hasQ, .string (ba u.query), .bool u.hasF, .string (ba u.frag)], .int .i64 0]) ∧ Below W.heap.size W w') := by
            rw [hx5]
            exact P1
          have X5 := Lib.hid (show bs x5 = dotPath (codes l) by rw [hx5, ← hup]; rfl)
          clear hu hup hx5
          cases hlx : lastX (codes l)
          · have HLX := Lib.hid hlx
            have e5 : t8 ++ (⟨#[47]⟩ : ByteArray) = x5 := bs_inj (by rw [bs_app, H8.out, X5.out]; unfold dotPath; rw [HLX.out, N0.out]; rfl)
            have E5 := Lib.hid e5
            rw [show lastT false = ⟨#[]⟩ from rfl]
            clear hlx e5
            go_wp2_with fail
            rw [E5.out]
            refine (P1.out _ T2.out).mono ?_
            rintro e w5 ⟨rfl, b5⟩
            have B5 := Lib.hid (below_step B2.out b5)
            have T5 := Lib.hid (T2.out.below b5)
            clear b5 P1
            go_upto_region 33 with (fail)
            obtain ⟨w6, g6, ew, eg, K6, B6, T6, -⟩ := UK.make (ba u.scheme) (ba u.user) (ba u.pass) (ba u.host) u.port x5 u.hasQ (ba u.query) u.hasF (ba u.frag) B5.out T5.out
            rw [ew, eg]
            clear ew eg B5 T5
            obtain ⟨zc0, zc1, zc2, zc3, zc4, zc5, zc6, zc7, zc8, zc9⟩ := K6.out.cells
            go_wp2_with fail
            refine (awake11 _ T6.out).mono ?_
            rintro e w7 ⟨rfl, b7⟩
            have B7 := Lib.hid (below_step B6.out b7)
            clear b7
            go_wp2_with fail
            go_ret
            exact ⟨rfl, B7.out⟩
          · have HLX := Lib.hid hlx
            have e5 : t8 = x5 := bs_inj (by rw [H8.out, X5.out]; unfold dotPath; rw [HLX.out, N0.out]; simp)
            subst e5
            rw [show lastT true = ⟨#[120]⟩ from rfl]
            clear hlx
            go_wp2_with fail
            refine (P1.out _ T2.out).mono ?_
            rintro e w5 ⟨rfl, b5⟩
            have B5 := Lib.hid (below_step B2.out b5)
            have T5 := Lib.hid (T2.out.below b5)
            clear b5 P1
            go_upto_region 33 with (fail)
            obtain ⟨w6, g6, ew, eg, K6, B6, T6, -⟩ := UK.make (ba u.scheme) (ba u.user) (ba u.pass) (ba u.host) u.port t8 u.hasQ (ba u.query) u.hasF (ba u.frag) B5.out T5.out
            rw [ew, eg]
            clear ew eg B5 T5
            obtain ⟨zc0, zc1, zc2, zc3, zc4, zc5, zc6, zc7, zc8, zc9⟩ := K6.out.cells
            go_wp2_with fail
            refine (awake11 _ T6.out).mono ?_
            rintro e w7 ⟨rfl, b7⟩
            have B7 := Lib.hid (below_step B6.out b7)
            clear b7
            go_wp2_with fail
            go_ret
            exact ⟨rfl, B7.out⟩
end Go.Proofs.YtcmcopieagpppaaGreatDoor.P
