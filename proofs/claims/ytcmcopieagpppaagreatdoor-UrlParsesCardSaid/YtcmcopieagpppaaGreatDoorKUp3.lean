/- A part of the proof of the statement Up: what is proved here of the program serves its last text; its conditions stand in the theorems. -/
import Derived.Test.YtcmcopieagpppaaGreatDoorKUp1
import Derived.Test.YtcmcopieagpppaaGreatDoorKUp2
import Derived.BigQuiet
import Derived.Deep.QuietTactic
import Derived.Lib.Hide
import Derived.Outline
namespace Go.Proofs.YtcmcopieagpppaaGreatDoor.P
open Go.RowKit Go.Proofs.YtcmcopieagpppaaGreatDoorW.PrintWords Go.Proofs.YtcmcopieagpppaaGreatDoorW.PrintLast Go.Proofs.YtcmcopieagpppaaGreatDoorW.PrintMore
set_option linter.unusedVariables false
set_option linter.unusedSimpArgs false
def ba (l : List UInt8) : ByteArray := ⟨l.toArray⟩
theorem ba_list (l : List UInt8) : (ba l).data.toList = l := rfl
theorem ba_size (l : List UInt8) : (ba l).size = l.length := rfl
theorem ba_toList (l : List UInt8) : (ba l).toList = l := by rw [Lib.toList_data]; rfl
theorem size_list (s : ByteArray) : s.data.toList.length = s.size := by rw [Array.length_toList]; rfl
theorem ba_append (a b : List UInt8) : ba a ++ ba b = ba (a ++ b) := by
  apply ByteArray.ext
  rw [ByteArray.data_append]
  simp [ba]
theorem ba_extract (l : List UInt8) (i j : Nat) : (ba l).extract i j = ba ((l.take j).drop i) := by
  apply ByteArray.ext
  rw [ByteArray.data_extract]
  simp [ba, List.extract_eq_take_drop, List.drop_take]
theorem bt_ba (l : List UInt8) (i : Nat) (h : i < l.length) : bt (ba l) (i : Int) = (l[i].toNat : Int) := by
  unfold bt
  rw [dif_pos (show ((i : Int)).toNat < (ba l).size from h)]
  rfl
theorem drop_at (l : List UInt8) (i : Nat) (h : i < l.length) : ∃ c, l.drop i = c :: l.drop (i + 1) ∧ bt (ba l) (i : Int) = (c.toNat : Int) :=
  ⟨l[i], List.drop_eq_getElem_cons h, bt_ba l i h⟩
theorem wrap_up {i : Nat} (h : i ≤ 9223372036854775806) : wrap64 ((i : Int) + 1) = ((i + 1 : Nat) : Int) := by
  unfold wrap64; omega
def nums8 (l : List UInt8) : List Int := l.map fun b => (b.toNat : Int)
theorem nums8_len (l : List UInt8) : (nums8 l).length = l.length := by simp [nums8]
theorem nums8_snoc (l : List UInt8) (c : UInt8) : nums8 l ++ [(c.toNat : Int)] = nums8 (l ++ [c]) := by simp [nums8]
theorem str_nums8 (l : List UInt8) : strOfNums (nums8 l) = ba l := strOfNums_bytes l
theorem u8_eq (c d : UInt8) : ((c.toNat : Int) = (d.toNat : Int)) ↔ c = d := by
  constructor
  · intro h; exact UInt8.toNat_inj.1 (by omega)
  · rintro rfl; rfl
theorem has_loop (t : List UInt8) (c : UInt8) (ht : t.length ≤ 1000) : ∀ d i k, i + d = t.length → d < k → parapetref1_Has.l0 k (ba t) (c.toNat : Int) (i : Int) = some ((t.drop i).contains c)
  | 0, i, k, hi, hk => by
    obtain ⟨k, rfl⟩ : ∃ m, k = m + 1 := ⟨k - 1, by omega⟩
    simp only [parapetref1_Has.l0]
    rw [if_neg (by rw [ba_size]; omega), List.drop_eq_nil_of_le (by omega)]
    rfl
  | d + 1, i, k, hi, hk => by
    obtain ⟨k, rfl⟩ : ∃ m, k = m + 1 := ⟨k - 1, by omega⟩
    obtain ⟨b, hb, hbt⟩ := drop_at t i (by omega)
    simp only [parapetref1_Has.l0]
    rw [if_pos (by rw [ba_size]; omega), if_pos (by omega), hbt, hb]
    by_cases e : b = c
    · subst e
      rw [if_pos rfl]
      simp
    · rw [if_neg (by rw [u8_eq]; exact e), wrap_up (by omega), has_loop t c ht d (i + 1) k (by omega) (by omega)]
      simp [Ne.symm e]
theorem has_eq (t : List UInt8) (c : UInt8) (k : Nat) (ht : t.length ≤ 1000) (hk : t.length < k) : parapetref1_Has.f k (ba t) (c.toNat : Int) = some (t.contains c) :=
  has_loop t c ht t.length 0 k (by omega) hk
theorem upTo_loop (l t : List UInt8) (hl : l.length ≤ 9223372036854775806) (ht : t.length ≤ 1000) : ∀ d i k, i + d = l.length → d + t.length + 1 < k →
    parapetref9_upTo.l0 k (ba l) (ba t) (i : Int) = some ((i + ((l.drop i).takeWhile fun c => !t.contains c).length : Nat) : Int)
  | 0, i, k, hi, hk => by
    obtain ⟨k, rfl⟩ : ∃ m, k = m + 1 := ⟨k - 1, by omega⟩
    simp only [parapetref9_upTo.l0]
    rw [if_neg (by rw [ba_size]; omega), List.drop_eq_nil_of_le (by omega), ba_size]
    simp
    omega
  | d + 1, i, k, hi, hk => by
    obtain ⟨k, rfl⟩ : ∃ m, k = m + 1 := ⟨k - 1, by omega⟩
    obtain ⟨b, hb, hbt⟩ := drop_at l i (by omega)
    simp only [parapetref9_upTo.l0]
    rw [if_pos (by rw [ba_size]; omega), if_pos (by omega), hbt, hb, has_eq t b k ht (by omega)]
    simp only [Option.bind_some]
    cases e : t.contains b with
    | true =>
      rw [if_pos rfl, List.takeWhile_cons_of_neg (by rw [e]; simp)]
      rfl
    | false =>
      rw [if_neg (by simp), wrap_up (by omega), upTo_loop l t hl ht d (i + 1) k (by omega) (by omega), List.takeWhile_cons_of_pos (by rw [e]; rfl), List.length_cons]
      congr 2
      omega
theorem upTo_eq (l t : List UInt8) (k : Nat) (hl : l.length ≤ 9223372036854775806) (ht : t.length ≤ 1000) (hk : l.length + t.length + 1 < k) :
    parapetref9_upTo.f k (ba l) (ba t) = some (((l.takeWhile fun c => !t.contains c).length : Nat) : Int) := by
  have := upTo_loop l t hl ht l.length 0 k (by omega) hk
  rw [List.drop_zero, Nat.zero_add] at this
  exact this
theorem lower_big (b : UInt8) (h1 : 65 ≤ (b.toNat : Int)) (h2 : (b.toNat : Int) ≤ 90) : ((b.toNat : Int) + 32) % 256 = ((Web.lowerB b).toNat : Int) := by
  rw [Web.lowerB_big (by omega) (by omega)]; omega
theorem lower_loop (l : List UInt8) (hl : l.length < 140737488355328) : ∀ d i k, i + d = l.length → d < k →
    parapetref1_Lower.l0 k (ba l) (nums8 (Web.lowerL (l.take i))) (i : Int) = some (ba (Web.lowerL l))
  | 0, i, k, hi, hk => by
    obtain ⟨k, rfl⟩ : ∃ m, k = m + 1 := ⟨k - 1, by omega⟩
    simp only [parapetref1_Lower.l0]
    rw [if_neg (by rw [ba_size]; omega), str_nums8, List.take_of_length_le (by omega)]
  | d + 1, i, k, hi, hk => by
    obtain ⟨k, rfl⟩ : ∃ m, k = m + 1 := ⟨k - 1, by omega⟩
    have hi' : i < l.length := by omega
    have hbt := bt_ba l i hi'
    have hlen : (nums8 (Web.lowerL (l.take i))).length < 140737488355328 := by rw [nums8_len, Web.lowerL_length, List.length_take]; omega
    have hs : nums8 (Web.lowerL (l.take i)) ++ [((Web.lowerB l[i]).toNat : Int)] = nums8 (Web.lowerL (l.take (i + 1))) := by
      rw [nums8_snoc, List.take_succ_eq_append_getElem hi']
      unfold Web.lowerL
      rw [List.map_append]
      rfl
    simp only [parapetref1_Lower.l0]
    rw [if_pos (by rw [ba_size]; omega), if_pos (by omega), hbt, wrap_up (by omega)]
    by_cases h1 : (l[i].toNat : Int) ≥ 65
    · by_cases h2 : (l[i].toNat : Int) ≤ 90
      · rw [if_pos h1, if_pos h2, if_pos hlen, lower_big _ h1 h2, hs]
        exact lower_loop l hl d (i + 1) k (by omega) (by omega)
      · rw [if_pos h1, if_neg h2, if_pos hlen]
        rw [Web.lowerB_small (by omega)] at hs
        rw [hs]
        exact lower_loop l hl d (i + 1) k (by omega) (by omega)
    · rw [if_neg h1, if_pos hlen]
      rw [Web.lowerB_small (by omega)] at hs
      rw [hs]
      exact lower_loop l hl d (i + 1) k (by omega) (by omega)
theorem lower_eq (l : List UInt8) (k : Nat) (hl : l.length < 140737488355328) (hk : l.length < k) : parapetref1_Lower.f k (ba l) = some (ba (Web.lowerL l)) :=
  lower_loop l hl l.length 0 k (by omega) hk
theorem in_eq (c : UInt8) (n : Nat) (k : Nat) (hk : 20 < k) : parapetref9_In.f k (c.toNat : Int) (n : Int) = some (Web.inSet n c) := by
  have e1 := has_eq [34, 60, 62, 96] c k (by decide) (by simp; omega)
  have e2 := has_eq [34, 35, 39, 60, 62] c k (by decide) (by simp; omega)
  have e3 := has_eq [34, 35, 60, 62, 63, 94, 96, 123, 125] c k (by decide) (by simp; omega)
  have e4 := has_eq [34, 35, 60, 62, 63, 94, 96, 123, 125, 47, 58, 59, 61, 64, 91, 92, 93, 124] c k (by decide) (by simp; omega)
  unfold ba at e1 e2 e3 e4
  unfold parapetref9_In.f
  rw [e1, e2, e3, e4]
  simp only [Option.bind_some]
  unfold Web.inSet
  by_cases h1 : n = 1
  · subst h1; simp only [Web.extra]; by_cases a : c.toNat < 33 <;> by_cases b : 126 < c.toNat <;> simp [a, b, show ((c.toNat : Int) < 33) = (c.toNat < 33) from propext ⟨fun h => by omega, fun h => by omega⟩, show ((126 : Int) < (c.toNat : Int)) = (126 < c.toNat) from propext ⟨fun h => by omega, fun h => by omega⟩]
  by_cases h2 : n = 2
  · subst h2; simp only [Web.extra]; by_cases a : c.toNat < 33 <;> by_cases b : 126 < c.toNat <;> simp [a, b, show ((c.toNat : Int) < 33) = (c.toNat < 33) from propext ⟨fun h => by omega, fun h => by omega⟩, show ((126 : Int) < (c.toNat : Int)) = (126 < c.toNat) from propext ⟨fun h => by omega, fun h => by omega⟩]
  by_cases h3 : n = 3
  · subst h3; simp only [Web.extra]; by_cases a : c.toNat < 33 <;> by_cases b : 126 < c.toNat <;> simp [a, b, show ((c.toNat : Int) < 33) = (c.toNat < 33) from propext ⟨fun h => by omega, fun h => by omega⟩, show ((126 : Int) < (c.toNat : Int)) = (126 < c.toNat) from propext ⟨fun h => by omega, fun h => by omega⟩]
  by_cases h4 : n = 4
  · subst h4; simp only [Web.extra]; by_cases a : c.toNat < 33 <;> by_cases b : 126 < c.toNat <;> simp [a, b, show ((c.toNat : Int) < 33) = (c.toNat < 33) from propext ⟨fun h => by omega, fun h => by omega⟩, show ((126 : Int) < (c.toNat : Int)) = (126 < c.toNat) from propext ⟨fun h => by omega, fun h => by omega⟩]
  rw [if_neg (by omega), if_neg (by omega), if_neg (by omega), if_neg (by omega)]
  have : Web.extra n = none := by
    unfold Web.extra
    split <;> first | omega | rfl
  rw [this]
theorem and15 : ∀ n : Nat, n < 256 → Go.bits .and .u8 (n : Int) 15 = ((n % 16 : Nat) : Int) := by decide +kernel
theorem hexU_bt : ∀ n : Nat, n < 16 → bt (⟨#[48, 49, 50, 51, 52, 53, 54, 55, 56, 57, 65, 66, 67, 68, 69, 70]⟩ : ByteArray) (n : Int) = ((Web.hexU n).toNat : Int) := by decide +kernel
theorem encB_len (n : Nat) (c : UInt8) : (Web.encB n c).length ≤ 3 := by unfold Web.encB; split <;> simp
theorem enc_len (n : Nat) (l : List UInt8) : (Web.enc n l).length ≤ 3 * l.length := by
  unfold Web.enc
  induction l with
  | nil => simp
  | cons c t ih => rw [List.flatMap_cons, List.length_append, List.length_cons]; have := encB_len n c; omega
theorem enc_snoc (n : Nat) (l : List UInt8) (c : UInt8) : Web.enc n (l ++ [c]) = Web.enc n l ++ Web.encB n c := by simp [Web.enc, List.flatMap_append]
theorem encode_loop (l : List UInt8) (n : Nat) (hl : l.length ≤ 35184372088832) : ∀ d i k, i + d = l.length → d + 21 < k →
    parapetref9_Encode.l0 k (ba l) (n : Int) (⟨#[48, 49, 50, 51, 52, 53, 54, 55, 56, 57, 65, 66, 67, 68, 69, 70]⟩ : ByteArray) (nums8 (Web.enc n (l.take i))) (i : Int) = some (ba (Web.enc n l))
  | 0, i, k, hi, hk => by
    obtain ⟨k, rfl⟩ : ∃ m, k = m + 1 := ⟨k - 1, by omega⟩
    simp only [parapetref9_Encode.l0]
    rw [if_neg (by rw [ba_size]; omega), str_nums8, List.take_of_length_le (by omega)]
  | d + 1, i, k, hi, hk => by
    obtain ⟨k, rfl⟩ : ∃ m, k = m + 1 := ⟨k - 1, by omega⟩
    have hi' : i < l.length := by omega
    have hbt := bt_ba l i hi'
    have hle := enc_len n (l.take i)
    rw [List.length_take] at hle
    have h256 := l[i].toNat_lt
    have hs : nums8 (Web.enc n (l.take i)) ++ nums8 (Web.encB n l[i]) = nums8 (Web.enc n (l.take (i + 1))) := by
      rw [List.take_succ_eq_append_getElem hi', enc_snoc]
      simp [nums8]
    simp only [parapetref9_Encode.l0]
    rw [if_pos (by rw [ba_size]; omega), if_pos (by omega), hbt, in_eq _ _ _ (by omega), wrap_up (by omega)]
    simp only [Option.bind_some]
    cases e : Web.inSet n l[i] with
    | true =>
      have hb : nums8 (Web.encB n l[i]) = [37, ((Web.hexU (l[i].toNat / 16)).toNat : Int), ((Web.hexU (l[i].toNat % 16)).toNat : Int)] := by
        unfold Web.encB
        rw [e]
        rfl
      rw [if_pos rfl, and15 _ (by omega), show ((l[i].toNat : Int) / 16) = ((l[i].toNat / 16 : Nat) : Int) from by omega, hexU_bt _ (by omega), hexU_bt _ (by omega),
        if_pos (by omega), if_pos (by show ((l[i].toNat / 16 : Nat) : Int) < 16; omega), if_pos (by omega), if_pos (by show ((l[i].toNat % 16 : Nat) : Int) < 16; omega),
        if_pos (by rw [nums8_len]; simp only [List.length_cons, List.length_nil]; omega), ← hb, hs]
      exact encode_loop l n hl d (i + 1) k (by omega) (by omega)
    | false =>
      have hb : nums8 (Web.encB n l[i]) = [(l[i].toNat : Int)] := by
        unfold Web.encB
        rw [e]
        rfl
      rw [if_neg (by simp), if_pos (by rw [nums8_len]; omega), ← hb, hs]
      exact encode_loop l n hl d (i + 1) k (by omega) (by omega)
theorem encode_eq (l : List UInt8) (n k : Nat) (hl : l.length ≤ 35184372088832) (hk : l.length + 21 < k) : parapetref9_Encode.f k (ba l) (n : Int) = some (ba (Web.enc n l)) :=
  encode_loop l n hl l.length 0 k (by omega) hk
theorem clean_l2 (l : List UInt8) (hl : l.length < 140737488355328) : ∀ d i k, i + d = l.length → d < k →
    parapetref9_clean.l2 k (ba l) (nums8 ((l.take i).filter fun c => !Web.tabbed c)) (i : Int) = some (ba (l.filter fun c => !Web.tabbed c))
  | 0, i, k, hi, hk => by
    obtain ⟨k, rfl⟩ : ∃ m, k = m + 1 := ⟨k - 1, by omega⟩
    simp only [parapetref9_clean.l2]
    rw [if_neg (by rw [ba_size]; omega), str_nums8, List.take_of_length_le (by omega)]
  | d + 1, i, k, hi, hk => by
    obtain ⟨k, rfl⟩ : ∃ m, k = m + 1 := ⟨k - 1, by omega⟩
    have hi' : i < l.length := by omega
    have hbt := bt_ba l i hi'
    have hle : ((l.take i).filter fun c => !Web.tabbed c).length ≤ i := by
      have := List.length_filter_le (fun c => !Web.tabbed c) (l.take i)
      rw [List.length_take] at this
      omega
    have hs : (l.take (i + 1)).filter (fun c => !Web.tabbed c) = (l.take i).filter (fun c => !Web.tabbed c) ++ (if Web.tabbed l[i] then [] else [l[i]]) := by
      rw [List.take_succ_eq_append_getElem hi', List.filter_append]
      congr 1
      cases e : Web.tabbed l[i] <;> simp [e]
    have ih := clean_l2 l hl d (i + 1) k (by omega) (by omega)
    rw [hs] at ih
    simp only [parapetref9_clean.l2]
    rw [if_pos (by rw [ba_size]; omega), if_pos (by omega), hbt, wrap_up (by omega)]
    have q9 : ((l[i].toNat : Int) = 9) = (l[i] = 9) := propext (u8_eq l[i] 9)
    have q10 : ((l[i].toNat : Int) = 10) = (l[i] = 10) := propext (u8_eq l[i] 10)
    have q13 : ((l[i].toNat : Int) = 13) = (l[i] = 13) := propext (u8_eq l[i] 13)
    simp only [q9, q10, q13]
    by_cases a9 : l[i] = 9
    · rw [if_pos a9]
      rw [if_pos (by simp [Web.tabbed, a9]), List.append_nil] at ih
      exact ih
    rw [if_neg a9]
    by_cases a10 : l[i] = 10
    · rw [if_pos a10]
      rw [if_pos (by simp [Web.tabbed, a10]), List.append_nil] at ih
      exact ih
    rw [if_neg a10]
    by_cases a13 : l[i] = 13
    · rw [if_pos a13]
      rw [if_pos (by simp [Web.tabbed, a13]), List.append_nil] at ih
      exact ih
    rw [if_neg a13, if_pos (by rw [nums8_len]; omega), nums8_snoc]
    rw [if_neg (by simp [Web.tabbed, a9, a10, a13])] at ih
    exact ih
theorem clean_l1 : ∀ (n : Nat) (l : List UInt8) (k : Nat), l.length = n → l.length < 140737488355328 → 2 * n + 3 < k →
    parapetref9_clean.l1 k (ba l) = some (ba (((l.reverse.dropWhile Web.blank).reverse).filter fun c => !Web.tabbed c))
  | 0, l, k, hn, hl, hk => by
    obtain ⟨k, rfl⟩ : ∃ m, k = m + 3 := ⟨k - 3, by omega⟩
    obtain rfl : l = [] := List.eq_nil_of_length_eq_zero hn
    simp only [parapetref9_clean.l1, parapetref9_clean.j3]
    rw [if_neg (by rw [ba_size]; simp)]
    exact clean_l2 [] (by simp) 0 0 (k + 1) rfl (by omega)
  | n + 1, l, k, hn, hl, hk => by
    obtain ⟨k, rfl⟩ : ∃ m, k = m + 2 := ⟨k - 2, by omega⟩
    rcases List.eq_nil_or_concat l with rfl | ⟨t, c, rfl⟩
    · simp at hn
    rw [List.concat_eq_append] at *
    rw [List.length_append, List.length_singleton] at hn hl
    have hw : wrap64 (((ba (t ++ [c])).size : Int) - 1) = (t.length : Int) := by
      rw [ba_size, List.length_append, List.length_singleton]; unfold wrap64; omega
    have hbt : bt (ba (t ++ [c])) (t.length : Int) = (c.toNat : Int) := by
      rw [bt_ba _ _ (by rw [List.length_append, List.length_singleton]; omega)]
      simp
    rw [parapetref9_clean.l1.eq_def]
    simp only []
    rw [if_pos (by rw [ba_size, List.length_append, List.length_singleton]; omega), hw, if_pos (by omega), if_pos (by rw [ba_size, List.length_append, List.length_singleton]; omega), hbt, List.reverse_append, List.reverse_singleton]
    by_cases hc : c.toNat ≤ 32
    · rw [if_pos (by omega), if_pos (by rw [ba_size, List.length_append, List.length_singleton]; omega), ba_extract, List.drop_zero, Int.toNat_natCast, List.take_left]
      rw [clean_l1 n t (k + 1) (by omega) (by omega) (by omega)]
      show _ = some (ba (List.filter _ (List.dropWhile Web.blank (c :: t.reverse)).reverse))
      rw [List.dropWhile_cons_of_pos (by simp [Web.blank, hc])]
    · rw [if_neg (by omega)]
      show parapetref9_clean.j3 (k + 1) _ = some (ba (List.filter _ (List.dropWhile Web.blank (c :: t.reverse)).reverse))
      rw [List.dropWhile_cons_of_neg (by simp [Web.blank, hc]), List.reverse_cons, List.reverse_reverse]
      simp only [parapetref9_clean.j3]
      exact clean_l2 (t ++ [c]) (by rw [List.length_append, List.length_singleton]; omega) (t ++ [c]).length 0 k (by omega) (by rw [List.length_append, List.length_singleton]; omega)
theorem clean_l0 : ∀ (l : List UInt8) (k : Nat), l.length < 140737488355328 → 3 * l.length + 6 < k →
    parapetref9_clean.l0 k (ba l) = some (ba (Web.clean l))
  | [], k, hl, hk => by
    obtain ⟨k, rfl⟩ : ∃ m, k = m + 2 := ⟨k - 2, by omega⟩
    simp only [parapetref9_clean.l0, parapetref9_clean.j1]
    rw [if_neg (by rw [ba_size]; simp)]
    exact clean_l1 0 [] k rfl (by simp) (by simp at hk; omega)
  | c :: t, k, hl, hk => by
    obtain ⟨k, rfl⟩ : ∃ m, k = m + 2 := ⟨k - 2, by omega⟩
    rw [List.length_cons] at hl hk
    have hbt : bt (ba (c :: t)) 0 = (c.toNat : Int) := bt_ba (c :: t) 0 (by simp)
    rw [parapetref9_clean.l0.eq_def]
    simp only []
    rw [if_pos (by rw [ba_size]; simp), if_pos (by rw [ba_size]; simp), hbt]
    by_cases hc : c.toNat ≤ 32
    · rw [if_pos (by omega), if_pos (by rw [ba_size, List.length_cons]; omega), ba_extract, ba_size, List.take_length]
      show parapetref9_clean.l0 (k + 1) (ba t) = _
      rw [clean_l0 t (k + 1) (by omega) (by omega)]
      unfold Web.clean Web.trim
      rw [List.dropWhile_cons_of_pos (by simp [Web.blank, hc])]
    · rw [if_neg (by omega)]
      simp only [parapetref9_clean.j1]
      rw [clean_l1 (t.length + 1) (c :: t) k rfl (by rw [List.length_cons]; omega) (by omega)]
      unfold Web.clean Web.trim
      rw [List.dropWhile_cons_of_neg (by simp [Web.blank, hc])]
theorem clean_eq (l : List UInt8) (k : Nat) (hl : l.length < 140737488355328) (hk : 3 * l.length + 6 < k) : parapetref9_clean.f k (ba l) = some (ba (Web.clean l)) := clean_l0 l k hl hk
def isLetter (c : UInt8) : Bool := decide (97 ≤ c.toNat ∧ c.toNat ≤ 122) || decide (65 ≤ c.toNat ∧ c.toNat ≤ 90)
def isDigit (c : UInt8) : Bool := decide (48 ≤ c.toNat ∧ c.toNat ≤ 57)
def isSchemed (c : UInt8) : Bool := isLetter c || isDigit c || c == 43 || c == 45 || c == 46
def schemeN (l : List UInt8) : Nat := match l with
  | [] => 0
  | c :: t => if isLetter c then (if (t.dropWhile isSchemed).head? = some 58 then 1 + (t.takeWhile isSchemed).length else 0) else 0
theorem letter_eq (c : UInt8) : parapetref1_Letter.f (c.toNat : Int) = some (isLetter c) := by
  unfold parapetref1_Letter.f isLetter
  repeat' split
  all_goals (congr 1; rw [Bool.eq_iff_iff]; simp; omega)
theorem digit_eq (c : UInt8) : parapetref1_Digit.f (c.toNat : Int) = some (isDigit c) := by
  unfold parapetref1_Digit.f isDigit
  repeat' split
  all_goals (congr 1; rw [Bool.eq_iff_iff]; simp; omega)
theorem scheme_loop (l : List UInt8) (hl : l.length ≤ 9223372036854775806) : ∀ d i k, i + d = l.length → d < k →
    parapetref9_scheme.l0 k (ba l) (i : Int) = some (((if ((l.drop i).dropWhile isSchemed).head? = some 58 then i + ((l.drop i).takeWhile isSchemed).length else 0 : Nat)) : Int)
  | 0, i, k, hi, hk => by
    obtain ⟨k, rfl⟩ : ∃ m, k = m + 1 := ⟨k - 1, by omega⟩
    simp only [parapetref9_scheme.l0]
    rw [if_neg (by rw [ba_size]; omega), if_pos (by rw [ba_size]; omega), List.drop_eq_nil_of_le (by omega)]
    simp
  | d + 1, i, k, hi, hk => by
    obtain ⟨k, rfl⟩ : ∃ m, k = m + 1 := ⟨k - 1, by omega⟩
    obtain ⟨b, hb, hbt⟩ := drop_at l i (by omega)
    have ih := scheme_loop l hl d (i + 1) k (by omega) (by omega)
    have q43 : ((b.toNat : Int) = 43) = (b = 43) := propext (u8_eq b 43)
    have q45 : ((b.toNat : Int) = 45) = (b = 45) := propext (u8_eq b 45)
    have q46 : ((b.toNat : Int) = 46) = (b = 46) := propext (u8_eq b 46)
    have q58 : ((b.toNat : Int) = 58) = (b = 58) := propext (u8_eq b 58)
    simp only [parapetref9_scheme.l0]
    rw [if_pos (by rw [ba_size]; omega), if_pos (by omega), hbt, hb, letter_eq, digit_eq, wrap_up (by omega), ih]
    simp only [Option.bind_some, q43, q45, q46, q58]
    cases e : isSchemed b with
    | true =>
      rw [List.dropWhile_cons_of_pos e, List.takeWhile_cons_of_pos e, List.length_cons]
      have key : ((if (List.dropWhile isSchemed (List.drop (i + 1) l)).head? = some 58 then i + 1 + (List.takeWhile isSchemed (List.drop (i + 1) l)).length else 0 : Nat)) =
          (if (List.dropWhile isSchemed (List.drop (i + 1) l)).head? = some 58 then i + ((List.takeWhile isSchemed (List.drop (i + 1) l)).length + 1) else 0 : Nat) := by
        split <;> omega
      rw [key]
      unfold isSchemed at e
      cases e1 : isLetter b with
      | true => rw [if_pos rfl]
      | false =>
        rw [if_neg (by simp)]
        cases e2 : isDigit b with
        | true => rw [if_pos rfl]
        | false =>
          rw [if_neg (by simp)]
          rw [e1, e2] at e
          simp only [Bool.false_or, Bool.or_eq_true, beq_iff_eq] at e
          rcases e with (e | e) | e <;> simp [e]
    | false =>
      rw [List.dropWhile_cons_of_neg (by rw [e]; simp), List.head?_cons]
      unfold isSchemed at e
      simp only [Bool.or_eq_false_iff, beq_eq_false_iff_ne] at e
      obtain ⟨⟨⟨⟨e1, e2⟩, e3⟩, e4⟩, e5⟩ := e
      rw [List.takeWhile_cons_of_neg (by unfold isSchemed; simp [e1, e2, e3, e4, e5])]
      rw [e1, e2, if_neg (by simp), if_neg (by simp), if_neg e3, if_neg e4, if_neg e5, if_neg (by rw [ba_size]; omega)]
      by_cases e6 : b = 58
      · rw [if_pos e6, if_pos (by rw [e6])]; simp
      · rw [if_neg e6, if_neg (by simpa using e6)]; rfl
theorem scheme_eq (l : List UInt8) (k : Nat) (hl : l.length ≤ 9223372036854775806) (hk : l.length + 2 < k) : parapetref9_scheme.f k (ba l) = some ((schemeN l : Nat) : Int) := by
  obtain ⟨k, rfl⟩ : ∃ m, k = m + 1 := ⟨k - 1, by omega⟩
  cases l with
  | nil =>
    unfold parapetref9_scheme.f
    rw [if_pos (by rw [ba_toList])]
    rfl
  | cons c t =>
    have hbt : bt (ba (c :: t)) 0 = (c.toNat : Int) := bt_ba (c :: t) 0 (by simp)
    unfold parapetref9_scheme.f
    rw [if_neg (by rw [ba_toList]; simp), if_pos (by rw [ba_size]; simp), hbt, letter_eq]
    simp only [Option.bind_some, parapetref9_scheme.j0]
    unfold schemeN
    cases e : isLetter c with
    | false => simp [e]
    | true =>
      have := scheme_loop (c :: t) hl t.length 1 k (by simp; omega) (by simp at hk; omega)
      simp only [e, Bool.not_true, if_true]
      rw [if_neg (by simp)]
      exact this
end Go.Proofs.YtcmcopieagpppaaGreatDoor.P
namespace Go.Proofs.YtcmcopieagpppaaGreatDoor.P
open Go.RowKit Go.Proofs.YtcmcopieagpppaaGreatDoorW.PrintWords Go.Proofs.YtcmcopieagpppaaGreatDoorW.PrintLast Go.Proofs.YtcmcopieagpppaaGreatDoorW.PrintMore
attribute [local go_sem] max2_int min2_int max_two min_two max_three min_three max_four min_four
set_option linter.unusedVariables false
set_option linter.unusedSimpArgs false
mutual
def parapetref9_hex.j0 : Nat → Int → Bool → Option (Int)
  | 0, _, _ => none
  | k + 1, x0, x3 => if x3 = true then (some ((x0 - 48) % 256)) else (if x0 ≥ 97 then (parapetref9_hex.j1 k x0 (decide (x0 ≤ 102))) else (parapetref9_hex.j1 k x0 false))
def parapetref9_hex.j1 : Nat → Int → Bool → Option (Int)
  | 0, _, _ => none
  | k + 1, x0, x13 => if x13 = true then (some (((x0 - 97) % 256) + 10)) else (if x0 ≥ 65 then (if x0 ≤ 70 then (some (((x0 - 65) % 256) + 10)) else (some (-1))) else (some (-1)))
end
def parapetref9_hex.f (k : Nat) (a0 : Int) : Option (Int) := if a0 ≥ 48 then (parapetref9_hex.j0 k a0 (decide (a0 ≤ 57))) else (parapetref9_hex.j0 k a0 false)
set_option maxHeartbeats 8000000 in
set_option maxRecDepth 100000 in
theorem parapetref9_hex.calls (k : Nat) (a0 : Int) (r : Int) (w : World) (h : parapetref9_hex.f k a0 = some r) :
    Calls Tryz.prog 139 #[.int .u8 a0] w fun e w' => e = .returned (.int .i64 r) ∧ Drawn0 w w' := by
  have H : (if a0 ≥ 48 then (parapetref9_hex.j0 k a0 (decide (a0 ≤ 57))) else (parapetref9_hex.j0 k a0 false)) = some r := h
  clear h
  have HC2 := Aside0.mk H
  clear H
  go_enter Tryz.func139, Tryz.ntmps139
  go_upto_region 1 with (fail)
  go_cut [3] (fun v3 wc => ∃ (kq : Nat) (x3_1 : Bool), v3 = .bool x3_1 ∧ Aside0 (parapetref9_hex.j0 kq a0 x3_1 = some r) ∧ Aside0 (kq ≤ k) ∧ Drawn0 w wc)
  case first =>
    have H := HC2.out
    clear HC2
    by_cases c3 : a0 ≥ 48
    · rw [if_pos c3] at H
      have c3b0 : decide (48 ≤ a0) = true := decide_eq_true c3
      clear c3
      (first | rw [c3b0] | (simp only [i64_w, i32_w]; rw [c3b0]) | skip)
      have H' := Aside0.mk H
      clear H
      go_wp2
      go_meet
      case rel => exact ⟨_, (decide (a0 ≤ 57)), (by first | rfl | (simp; done) | (simp [*]; done)), H', ⟨by first | omega | exact Nat.le_refl _⟩, by repeat (first | exact Drawn0.refl _ | apply Drawn0.step)⟩
    · rw [if_neg c3] at H
      have c3b0 : decide (48 ≤ a0) = false := decide_eq_false c3
      clear c3
      (first | rw [c3b0] | (simp only [i64_w, i32_w]; rw [c3b0]) | skip)
      have H' := Aside0.mk H
      clear H
      go_wp2
      go_meet
      case rel => exact ⟨_, (false), (by first | rfl | (simp; done) | (simp [*]; done)), H', ⟨by first | omega | exact Nat.le_refl _⟩, by repeat (first | exact Drawn0.refl _ | apply Drawn0.step)⟩
  case rest =>
    clear HC2
    try clear c1
    try clear p2
    try clear c3
    try clear c3b0
    obtain ⟨kq, x3_1, rfl, HA, HJ1, ⟨mc1, rfl⟩⟩ := hcut
    cases kq with
    | zero => exact absurd HA.out (by simp [parapetref9_hex.j0])
    | succ kj1 =>
      have H := HA.out
      clear HA
      simp only [parapetref9_hex.j0] at H
      by_cases c4 : x3_1 = true
      · subst c4
        have H1 : (some ((a0 - 48) % 256)) = some r := by rw [if_pos rfl] at H; exact H
        clear H
        have H := H1
        clear H1
        obtain rfl := Option.some.inj H
        go_wp2
        go_ret
        exact ⟨by first | rfl | (simp; done) | (simp [*]; done), by repeat (first | exact Drawn0.refl _ | apply Drawn0.step)⟩
      · replace c4 := Bool.eq_false_iff.mpr c4
        subst c4
        have H1 : (if a0 ≥ 97 then (parapetref9_hex.j1 kj1 a0 (decide (a0 ≤ 102))) else (parapetref9_hex.j1 kj1 a0 false)) = some r := by rw [if_neg (show ¬ (false = true) by decide)] at H; exact H
        clear H
        have H := H1
        clear H1
        have HC5 := Aside0.mk H
        clear H
        go_upto_region 3 with (fail)
        go_cut [13] (fun v13 wc => ∃ (kq : Nat) (x13_4 : Bool), v13 = .bool x13_4 ∧ Aside0 (parapetref9_hex.j1 kq a0 x13_4 = some r) ∧ Aside0 (kq ≤ kj1) ∧ Drawn0 w wc)
        case first =>
          have H := HC5.out
          clear HC5
          by_cases c6 : a0 ≥ 97
          · rw [if_pos c6] at H
            have c6b0 : decide (97 ≤ a0) = true := decide_eq_true c6
            clear c6
            (first | rw [c6b0] | (simp only [i64_w, i32_w]; rw [c6b0]) | skip)
            have H' := Aside0.mk H
            clear H
            go_wp2
            go_meet
            case rel => exact ⟨_, (decide (a0 ≤ 102)), (by first | rfl | (simp; done) | (simp [*]; done)), H', ⟨by have := HJ1.out; first | omega | exact Nat.le_refl _⟩, by repeat (first | exact Drawn0.refl _ | apply Drawn0.step)⟩
          · rw [if_neg c6] at H
            have c6b0 : decide (97 ≤ a0) = false := decide_eq_false c6
            clear c6
            (first | rw [c6b0] | (simp only [i64_w, i32_w]; rw [c6b0]) | skip)
            have H' := Aside0.mk H
            clear H
            go_wp2
            go_meet
            case rel => exact ⟨_, (false), (by first | rfl | (simp; done) | (simp [*]; done)), H', ⟨by have := HJ1.out; first | omega | exact Nat.le_refl _⟩, by repeat (first | exact Drawn0.refl _ | apply Drawn0.step)⟩
        case rest =>
          clear HC5
          try clear c1
          try clear p2
          try clear c3
          try clear c3b0
          try clear c4
          try clear c6
          try clear c6b0
          try clear p2
          obtain ⟨kq, x13_4, rfl, HA, HJ4, ⟨mc4, rfl⟩⟩ := hcut
          cases kq with
          | zero => exact absurd HA.out (by simp [parapetref9_hex.j1])
          | succ kj4 =>
            have H := HA.out
            clear HA
            simp only [parapetref9_hex.j1] at H
            by_cases c7 : x13_4 = true
            · subst c7
              have H1 : (some (((a0 - 97) % 256) + 10)) = some r := by rw [if_pos rfl] at H; exact H
              clear H
              have H := H1
              clear H1
              obtain rfl := Option.some.inj H
              go_wp2
              go_ret
              exact ⟨by first | rfl | (simp; done) | (simp [*]; done), by repeat (first | exact Drawn0.refl _ | apply Drawn0.step)⟩
            · replace c7 := Bool.eq_false_iff.mpr c7
              subst c7
              have H1 : (if a0 ≥ 65 then (if a0 ≤ 70 then (some (((a0 - 65) % 256) + 10)) else (some (-1))) else (some (-1))) = some r := by rw [if_neg (show ¬ (false = true) by decide)] at H; exact H
              clear H
              have H := H1
              clear H1
              by_cases c8 : a0 ≥ 65
              · rw [if_pos c8] at H
                have c8b0 : decide (65 ≤ a0) = true := decide_eq_true c8
                clear c8
                by_cases c9 : a0 ≤ 70
                · rw [if_pos c9] at H
                  have c9b0 : decide (a0 ≤ 70) = true := decide_eq_true c9
                  clear c9
                  obtain rfl := Option.some.inj H
                  go_wp2
                  go_ret
                  exact ⟨by first | rfl | (simp; done) | (simp [*]; done), by repeat (first | exact Drawn0.refl _ | apply Drawn0.step)⟩
                · rw [if_neg c9] at H
                  have c9b0 : decide (a0 ≤ 70) = false := decide_eq_false c9
                  clear c9
                  obtain rfl := Option.some.inj H
                  go_wp2
                  go_ret
                  exact ⟨by first | rfl | (simp; done) | (simp [*]; done), by repeat (first | exact Drawn0.refl _ | apply Drawn0.step)⟩
              · rw [if_neg c8] at H
                have c8b0 : decide (65 ≤ a0) = false := decide_eq_false c8
                clear c8
                obtain rfl := Option.some.inj H
                go_wp2
                go_ret
                exact ⟨by first | rfl | (simp; done) | (simp [*]; done), by repeat (first | exact Drawn0.refl _ | apply Drawn0.step)⟩
end Go.Proofs.YtcmcopieagpppaaGreatDoor.P
namespace Go.Proofs.YtcmcopieagpppaaGreatDoor.P
open Go.RowKit Go.Proofs.YtcmcopieagpppaaGreatDoorW.PrintWords Go.Proofs.YtcmcopieagpppaaGreatDoorW.PrintLast Go.Proofs.YtcmcopieagpppaaGreatDoorW.PrintMore
set_option linter.unusedVariables false
def hexI (c : Int) : Int := if 48 ≤ c ∧ c ≤ 57 then c - 48 else if 97 ≤ c ∧ c ≤ 102 then c - 87 else if 65 ≤ c ∧ c ≤ 70 then c - 55 else -1
theorem hex_ev (c : Int) (h0 : 0 ≤ c) (h1 : c ≤ 255) : Ev (fun k => parapetref9_hex.f k c) (hexI c) := by
  refine ⟨3, fun k hk => ?_⟩
  obtain ⟨m, rfl⟩ : ∃ m, k = m + 3 := ⟨k - 3, by omega⟩
  simp only [parapetref9_hex.f, parapetref9_hex.j0, parapetref9_hex.j1, hexI]
  repeat' split
  all_goals first | (congr 1; omega) | (exfalso; simp_all; done) | (simp_all; done) | (exfalso; simp_all; omega) | (simp_all; omega)
def okDig (b : Int) (c : UInt8) : Bool := decide (0 ≤ hexI (c.toNat : Int)) && decide (hexI (c.toNat : Int) < b)
def digitsI (l : List UInt8) (b : Int) : Bool := l.all (okDig b) && !l.isEmpty
def parapetref9_digits.f (a0 : ByteArray) (a1 : Int) : Option Bool := if a0.size ≤ 9223372036854775806 then some (digitsI a0.data.toList a1) else none
theorem digitsI_bad (s : ByteArray) (b : Int) (k : Nat) (hk : k < s.size) (h : okDig b s[k] = false) : digitsI s.data.toList b = false := by
  have : s.data.toList.all (okDig b) = false := by
    rw [List.all_eq_false]
    exact ⟨s[k], by rw [ByteArray.getElem_eq_getElem_data]; simp, by simp [h]⟩
  simp [digitsI, this]
theorem digitsI_good (s : ByteArray) (b : Int) (h : ∀ j (hj : j < s.size), okDig b s[j] = true) : digitsI s.data.toList b = !s.data.toList.isEmpty := by
  have : s.data.toList.all (okDig b) = true := by
    rw [List.all_eq_true]
    intro x hx
    obtain ⟨j, hj, rfl⟩ := List.getElem_of_mem hx
    have := h j (by simpa using hj)
    rw [ByteArray.getElem_eq_getElem_data] at this
    simpa using this
  simp [digitsI, this]
set_option maxRecDepth 100000 in
set_option maxHeartbeats 1000000 in
theorem digits_walk (s : ByteArray) (b : Int) (w : World) (hs : s.size ≤ 9223372036854775806) :
    Calls Tryz.prog 100 #[.string s, .int .i64 b] w fun e w' => e = .returned (.bool (digitsI s.data.toList b)) ∧ Drawn0 w w' := by
  go_enter Tryz.func100, Tryz.ntmps100
  go_wp2
  go_loopw [5] (fun v wr => ∃ k : Nat, k ≤ s.size ∧ v = .int .i64 k ∧ Hid (∀ j (hj : j < s.size), j < k → okDig b s[j] = true) ∧ Drawn0 w wr) (fun v _ => s.size - (intOf v).toNat)
  case atStart => exact ⟨0, Nat.zero_le _, rfl, Lib.hid (fun j _ h => absurd h (Nat.not_lt_zero _)), Drawn0.refl _⟩
  case round =>
    obtain ⟨k, hk, rfl, HA, HD⟩ := hrel
    by_cases hlt : k < s.size
    · have hc255 : (s[k].toNat : Int) ≤ 255 := by have := s[k].toNat_lt; omega
      obtain ⟨kk, hkk⟩ := (hex_ev (s[k].toNat : Int) (by omega) hc255).rounds
      have hcl := fun W => parapetref9_hex.calls kk (s[k].toNat : Int) _ W hkk
      have HC := Lib.hid hcl
      obtain ⟨x, hx⟩ : ∃ x, hexI (s[k].toNat : Int) = x := ⟨_, rfl⟩
      rw [hx] at HC
      have HX := Lib.hid hx
      clear hcl hkk hx
      by_cases hx0 : x < 0
      · have HB : Hid (okDig b s[k] = false) := Lib.hid (by unfold okDig; rw [HX.out]; simp; omega)
        go_wp2_with (go_at_call 139; refine (HC.out _).mono ?_; rintro e w' ⟨rfl, ⟨n, rfl⟩⟩)
        go_ret
        exact ⟨by rw [digitsI_bad s b k hlt HB.out]; rfl, HD.step n⟩
      · have hx0' : decide (x < 0) = false := by simpa using hx0
        by_cases hxb : b ≤ x
        · have HB : Hid (okDig b s[k] = false) := Lib.hid (by unfold okDig; rw [HX.out]; simp; omega)
          go_wp2_with (go_at_call 139; refine (HC.out _).mono ?_; rintro e w' ⟨rfl, ⟨n, rfl⟩⟩)
          go_ret
          exact ⟨by rw [digitsI_bad s b k hlt HB.out]; rfl, HD.step n⟩
        · have HB : Hid (okDig b s[k] = true) := Lib.hid (by unfold okDig; rw [HX.out]; simp; omega)
          go_wp2_with (go_at_call 139; refine (HC.out _).mono ?_; rintro e w' ⟨rfl, ⟨n, rfl⟩⟩)
          go_roundw
          case rel => exact ⟨k + 1, by omega, by go_num, Lib.hid (fun j hj hjk => by
            by_cases e : j = k
            · subst e; exact HB.out
            · exact HA.out j hj (by omega)), HD.step n⟩
          case measure => simp [intOf]; omega
    · obtain rfl : k = s.size := by omega
      have hg := digitsI_good s b (fun j hj => HA.out j hj hj)
      have HG := Lib.hid hg
      clear hg
      go_wp2
      go_ret
      exact ⟨by rw [HG.out, ← Lib.toList_data]; rfl, HD⟩
theorem parapetref9_digits.calls (a0 : ByteArray) (a1 : Int) (r : Bool) (w : World) (h : parapetref9_digits.f a0 a1 = some r) :
    Calls Tryz.prog 100 #[.string a0, .int .i64 a1] w fun e w' => e = .returned (.bool r) ∧ Drawn0 w w' := by
  unfold parapetref9_digits.f at h
  by_cases hs : a0.size ≤ 9223372036854775806
  · rw [if_pos hs] at h
    replace h := Option.some.inj h
    subst h
    exact digits_walk a0 a1 w hs
  · rw [if_neg hs] at h
    cases h
end Go.Proofs.YtcmcopieagpppaaGreatDoor.P
namespace Go.Proofs.YtcmcopieagpppaaGreatDoor.P
open Go.RowKit Go.Proofs.YtcmcopieagpppaaGreatDoorW.PrintWords Go.Proofs.YtcmcopieagpppaaGreatDoorW.PrintLast Go.Proofs.YtcmcopieagpppaaGreatDoorW.PrintMore
attribute [local go_sem] max2_int min2_int max_two min_two max_three min_three max_four min_four
set_option linter.unusedVariables false
set_option linter.unusedSimpArgs false
def parapetref1_Split.l0 : Nat → ByteArray → Int → List ByteArray → Int → Int → Option (List ByteArray)
  | 0, _, _, _, _, _ => none
  | k + 1, x0, x1, x5, x6, x7 => if x7 < (x0.size : Int) then (if 0 ≤ x7 then (if (bt x0 x7) = x1 then (if 0 ≤ x6 then (if x6 ≤ x7 then (if x7 ≤ (x0.size : Int) then (if x5.length < 8796093022208 then (parapetref1_Split.l0 k x0 x1 (x5 ++ [x0.extract (x6 : Int).toNat (x7 : Int).toNat]) (wrap64 (x7 + 1)) (wrap64 (x7 + 1))) else (none)) else (none)) else (none)) else (none)) else (parapetref1_Split.l0 k x0 x1 x5 x6 (wrap64 (x7 + 1)))) else (none)) else (if 0 ≤ x6 then (if x6 ≤ (x0.size : Int) then (if x5.length < 8796093022208 then (some (x5 ++ [x0.extract (x6 : Int).toNat x0.size])) else (none)) else (none)) else (none))
def parapetref1_Split.f (k : Nat) (a0 : ByteArray) (a1 : Int) : Option (List ByteArray) := parapetref1_Split.l0 k a0 a1 ([] : List ByteArray) 0 0
set_option maxHeartbeats 8000000 in
set_option maxRecDepth 100000 in
theorem parapetref1_Split.calls (k : Nat) (a0 : ByteArray) (a1 : Int) (r : List ByteArray) (w : World) (h : parapetref1_Split.f k a0 a1 = some r) :
    Calls Tryz.prog 176 #[.string a0, .int .u8 a1] w fun e w' => ∃ v0_ : Value, e = .returned (v0_) ∧ Kd.R Kd.string 9 w' w.heap.size (fun _ => True) v0_ r ∧ Below w.heap.size w w' := by
  have HB := Aside0.mk (Below.refl w.heap.size w)
  have H : (parapetref1_Split.l0 k a0 a1 ([] : List ByteArray) 0 0) = some r := h
  clear h
  have H' := Aside0.mk H
  clear H
  go_enter Tryz.func176, Tryz.ntmps176
  go_wp2
  go_loopg [5, 6, 7] k (fun kq v5 v6 v7 w' => ∃ (x5_1 : List ByteArray) (x6_1 : Int) (x7_1 : Int), v6 = .int .i64 x6_1 ∧ v7 = .int .i64 x7_1 ∧ Aside0 (parapetref1_Split.l0 kq a0 a1 x5_1 x6_1 x7_1 = some r) ∧ Aside0 (kq ≤ k) ∧ Aside0 (Kd.R Kd.string 9 w' w.heap.size (fun _ => True) v5 x5_1) ∧ Aside0 (Below w.heap.size w w'))
  case atStart => exact ⟨(([] : List ByteArray)), (0), (0), (by first | rfl | (simp; done) | (simp [*]; done)), (by first | rfl | (simp; done) | (simp [*]; done)), H', ⟨Nat.le_refl _⟩, ⟨by first | exact Kd.R_nil _ _ _ _ _ | exact Kd.N_nil _ _ _ _ _ | exact Kd.V_nil _ _ _ _ _ | exact Kd.Q_nil _ _ _ _ _ | exact Kd.S_nil _ _ _ _ _⟩, ⟨by repeat (first | (with_reducible first | exact HB.out | apply below_alloc | apply pw_below_drewN | apply below_drew1) | exact HB.out)⟩⟩
  case round =>
    clear H'
    try clear c1
    try clear p2
    obtain ⟨x5_1, x6_1, x7_1, rfl, rfl, HA, HK1, HO_5, HB⟩ := hrel
    cases gk with
    | zero => exact absurd HA.out (by simp [parapetref1_Split.l0])
    | succ k1 =>
      have H := HA.out
      clear HA
      simp only [parapetref1_Split.l0] at H
      by_cases c3 : x7_1 < (a0.size : Int)
      · rw [if_pos c3] at H
        have c3b0 : decide (x7_1 < (a0.size : Int)) = true := decide_eq_true c3
        clear c3
        by_cases c4 : 0 ≤ x7_1
        · rw [if_pos c4] at H
          have c4b0 : decide (0 ≤ x7_1) = true := decide_eq_true c4
          clear c4
          by_cases c6 : (bt a0 x7_1) = a1
          · rw [if_pos c6] at H
            have c6b0 : ((bt a0 x7_1) == a1) = true := beq_iff_eq.mpr c6
            have c6b1 : ((bt a0 x7_1) != a1) = false := bne_eq_false_iff_eq.mpr c6
            clear c6
            by_cases c7 : 0 ≤ x6_1
            · rw [if_pos c7] at H
              have c7b0 := eq_true c7
              have c7b1 : decide (0 ≤ x6_1) = true := decide_eq_true c7
              clear c7
              by_cases c8 : x6_1 ≤ x7_1
              · rw [if_pos c8] at H
                have c8b0 := eq_true c8
                have c8b1 : decide (x6_1 ≤ x7_1) = true := decide_eq_true c8
                clear c8
                by_cases c9 : x7_1 ≤ (a0.size : Int)
                · rw [if_pos c9] at H
                  have c9b0 := eq_true c9
                  have c9b1 : decide (x7_1 ≤ (a0.size : Int)) = true := decide_eq_true c9
                  clear c9
                  by_cases c10 : x5_1.length < 8796093022208
                  · rw [if_pos c10] at H
                    have LMc10 := Aside0.mk c10
                    clear c10
                    obtain ⟨y139, hy139⟩ : ∃ y_ : List ByteArray, y_ = (x5_1 ++ [a0.extract (x6_1 : Int).toNat (x7_1 : Int).toNat]) := ⟨_, rfl⟩
                    replace H : (parapetref1_Split.l0 k1 a0 a1 y139 (wrap64 (x7_1 + 1)) (wrap64 (x7_1 + 1))) = some r := by first | (rw [hy139]; with_reducible exact H) | (have H2_ := (Option.bind_some _ _).symm.trans H; rw [hy139]; with_reducible exact H2_) | (have H2_ := (Option.bind_some _ _).symm.trans H; with_reducible exact H2_) | with_reducible exact H | (rw [hy139]; exact H) | exact H
                    have Ny139 := Aside0.mk hy139
                    clear hy139
                    have H' := Aside0.mk H
                    clear H
                    have p5 : 0 ≤ (x7_1 : Int) := of_decide_eq_true (by first | (with_reducible assumption) | assumption)
                    have q5 : x7_1 < (a0.size : Int) := of_decide_eq_true (by first | (with_reducible assumption) | assumption)
                    have hx5 := bt_at a0 x7_1
                    replace p5 := eq_true p5
                    replace q5 := eq_true q5
                    go_wp2_with (first | ((with_reducible refine gate_builtin (b := .append) (xs := #[.tmp 19, .tmp 24]) rfl ?_); at_builtin; refine Kd.R_append Kd.string (w0 := w) w.heap.size rfl (.tmp 19) (.tmp 24) 22 9 (.string ⟨#[]⟩) 16 rfl Tryz.underlying22 info9 rfl (by decide) (by omega) u5 x5_1 (a0.extract (x6_1 : Int).toNat (x7_1 : Int).toNat) [.string (a0.extract (x6_1 : Int).toNat (x7_1 : Int).toNat)] (fun _ => True) (fun _ => False) rfl rfl ?aP (fun _ hk => hk.elim) ?aF ?aO ?aB ?aS ?aL ?_; (case aP => exact rfl); (case aB => exact (by repeat (first | (with_reducible first | exact HB.out | apply below_alloc | apply pw_below_drewN | apply below_drew1) | exact HB.out))); (case aF => exact (fun _ _ => trivial)); (case aO => exact (by (with_reducible repeat (first | apply Kd.R_alloc | apply Kd.R_drewN | apply Kd.R_drew)); exact HO_5.out)); (case aS => exact (below_size (by repeat (first | (with_reducible first | exact HB.out | apply below_alloc | apply pw_below_drewN | apply below_drew1) | exact HB.out)))); (case aL => have := LMc10.out; omega); intro v140 w11 ho hb hg hat; rw [← Ny139.out] at ho; have n0_ := Aside0.mk (hb); have n1_ := Aside0.mk (ho); clear HB; clear HO_5; have HB := n0_; have HO141 := n1_; clear n0_ n1_; clear ho hb hg hat))
                    go_roundg k1
                    case measure => have := HK1.out; omega
                    case rel => exact ⟨(y139), (wrap64 (x7_1 + 1)), (wrap64 (x7_1 + 1)), (by first | rfl | (simp; done) | (simp [*]; done)), (by first | rfl | (simp; done) | (simp [*]; done)), H', ⟨by have := HK1.out; omega⟩, ⟨by (with_reducible repeat (first | apply Kd.R_alloc | apply Kd.R_drewN | apply Kd.R_drew)); exact HO141.out⟩, ⟨by repeat (first | (with_reducible first | exact HB.out | apply below_alloc | apply pw_below_drewN | apply below_drew1) | exact HB.out)⟩⟩
                  · rw [if_neg c10] at H
                    exact absurd H (by simp)
                · rw [if_neg c9] at H
                  exact absurd H (by simp)
              · rw [if_neg c8] at H
                exact absurd H (by simp)
            · rw [if_neg c7] at H
              exact absurd H (by simp)
          · rw [if_neg c6] at H
            have c6b0 : ((bt a0 x7_1) == a1) = false := beq_eq_false_iff_ne.mpr c6
            have c6b1 : ((bt a0 x7_1) != a1) = true := bne_iff_ne.mpr c6
            have H' := Aside0.mk H
            clear H
            have p5 : 0 ≤ (x7_1 : Int) := of_decide_eq_true (by first | (with_reducible assumption) | assumption)
            have q5 : x7_1 < (a0.size : Int) := of_decide_eq_true (by first | (with_reducible assumption) | assumption)
            have hx5 := bt_at a0 x7_1
            replace p5 := eq_true p5
            replace q5 := eq_true q5
            go_wp2
            go_roundg k1
            case measure => have := HK1.out; omega
            case rel => exact ⟨(x5_1), (x6_1), (wrap64 (x7_1 + 1)), (by first | rfl | (simp; done) | (simp [*]; done)), (by first | rfl | (simp; done) | (simp [*]; done)), H', ⟨by have := HK1.out; omega⟩, ⟨by (with_reducible repeat (first | apply Kd.R_alloc | apply Kd.R_drewN | apply Kd.R_drew)); exact HO_5.out⟩, ⟨by repeat (first | (with_reducible first | exact HB.out | apply below_alloc | apply pw_below_drewN | apply below_drew1) | exact HB.out)⟩⟩
        · rw [if_neg c4] at H
          exact absurd H (by simp)
      · rw [if_neg c3] at H
        have c3b0 : decide (x7_1 < (a0.size : Int)) = false := decide_eq_false c3
        clear c3
        by_cases c12 : 0 ≤ x6_1
        · rw [if_pos c12] at H
          have c12b0 := eq_true c12
          have c12b1 : decide (0 ≤ x6_1) = true := decide_eq_true c12
          clear c12
          by_cases c13 : x6_1 ≤ (a0.size : Int)
          · rw [if_pos c13] at H
            have c13b0 := eq_true c13
            have c13b1 : decide (x6_1 ≤ (a0.size : Int)) = true := decide_eq_true c13
            clear c13
            by_cases c14 : x5_1.length < 8796093022208
            · rw [if_pos c14] at H
              have LMc14 := Aside0.mk c14
              clear c14
              obtain ⟨y142, hy142⟩ : ∃ y_ : List ByteArray, y_ = (x5_1 ++ [a0.extract (x6_1 : Int).toNat a0.size]) := ⟨_, rfl⟩
              replace H : (some y142) = some r := by first | (rw [hy142]; with_reducible exact H) | (have H2_ := (Option.bind_some _ _).symm.trans H; rw [hy142]; with_reducible exact H2_) | (have H2_ := (Option.bind_some _ _).symm.trans H; with_reducible exact H2_) | with_reducible exact H | (rw [hy142]; exact H) | exact H
              have Ny142 := Aside0.mk hy142
              clear hy142
              obtain rfl := Option.some.inj H
              go_wp2_with (first | ((with_reducible refine gate_builtin (b := .append) (xs := #[.tmp 28, .tmp 32]) rfl ?_); at_builtin; refine Kd.R_append Kd.string (w0 := w) w.heap.size rfl (.tmp 28) (.tmp 32) 22 9 (.string ⟨#[]⟩) 16 rfl Tryz.underlying22 info9 rfl (by decide) (by omega) u5 x5_1 (a0.extract (x6_1 : Int).toNat a0.size) [.string (a0.extract (x6_1 : Int).toNat a0.size)] (fun _ => True) (fun _ => False) rfl rfl ?aP (fun _ hk => hk.elim) ?aF ?aO ?aB ?aS ?aL ?_; (case aP => exact rfl); (case aB => exact (by repeat (first | (with_reducible first | exact HB.out | apply below_alloc | apply pw_below_drewN | apply below_drew1) | exact HB.out))); (case aF => exact (fun _ _ => trivial)); (case aO => exact (by (with_reducible repeat (first | apply Kd.R_alloc | apply Kd.R_drewN | apply Kd.R_drew)); exact HO_5.out)); (case aS => exact (below_size (by repeat (first | (with_reducible first | exact HB.out | apply below_alloc | apply pw_below_drewN | apply below_drew1) | exact HB.out)))); (case aL => have := LMc14.out; omega); intro v143 w15 ho hb hg hat; rw [← Ny142.out] at ho; have n0_ := Aside0.mk (hb); have n1_ := Aside0.mk (ho); clear HB; clear HO_5; have HB := n0_; have HO144 := n1_; clear n0_ n1_; clear ho hb hg hat))
              go_ret
              exact ⟨_, by first | rfl | (simp [errW_none, errW_some] <;> rfl) | (simp [*, errW_none, errW_some] <;> rfl), by (with_reducible repeat (first | apply Kd.R_alloc | apply Kd.R_drewN | apply Kd.R_drew)); exact HO144.out, by repeat (first | (with_reducible first | exact HB.out | apply below_alloc | apply pw_below_drewN | apply below_drew1) | exact HB.out)⟩
            · rw [if_neg c14] at H
              exact absurd H (by simp)
          · rw [if_neg c13] at H
            exact absurd H (by simp)
        · rw [if_neg c12] at H
          exact absurd H (by simp)
end Go.Proofs.YtcmcopieagpppaaGreatDoor.P
namespace Go.Proofs.YtcmcopieagpppaaGreatDoor.P
open Go.RowKit Go.Proofs.YtcmcopieagpppaaGreatDoorW.PrintWords Go.Proofs.YtcmcopieagpppaaGreatDoorW.PrintLast Go.Proofs.YtcmcopieagpppaaGreatDoorW.PrintMore
attribute [local go_sem] max2_int min2_int max_two min_two max_three min_three max_four min_four
set_option linter.unusedVariables false
set_option linter.unusedSimpArgs false
def parapetref9_parts.f (k : Nat) (a0 : ByteArray) : Option (List ByteArray) := (parapetref1_Split.f k a0 46).bind fun t145 => (if (t145.length : Int) > 1 then (if 0 ≤ (wrap64 ((t145.length : Int) - 1)) then (if (wrap64 ((t145.length : Int) - 1)) < (t145.length : Int) then (if (rdOf ByteArray.empty t145 (wrap64 ((t145.length : Int) - 1))).toList = ([] : List UInt8) then (if (wrap64 ((t145.length : Int) - 1)) ≤ (t145.length : Int) then (some (t145.take ((wrap64 ((t145.length : Int) - 1)) : Int).toNat)) else (none)) else (some t145)) else (none)) else (none)) else (some t145))
set_option maxHeartbeats 8000000 in
set_option maxRecDepth 100000 in
theorem parapetref9_parts.calls (k : Nat) (a0 : ByteArray) (r : List ByteArray) (w : World) (h : parapetref9_parts.f k a0 = some r) :
    Calls Tryz.prog 142 #[.string a0] w fun e w' => ∃ v0_ : Value, e = .returned (v0_) ∧ Kd.R Kd.string 9 w' w.heap.size (fun _ => True) v0_ r ∧ Below w.heap.size w w' := by
  have HB := Aside0.mk (Below.refl w.heap.size w)
  have H : ((parapetref1_Split.f k a0 46).bind fun t145 => (if (t145.length : Int) > 1 then (if 0 ≤ (wrap64 ((t145.length : Int) - 1)) then (if (wrap64 ((t145.length : Int) - 1)) < (t145.length : Int) then (if (rdOf ByteArray.empty t145 (wrap64 ((t145.length : Int) - 1))).toList = ([] : List UInt8) then (if (wrap64 ((t145.length : Int) - 1)) ≤ (t145.length : Int) then (some (t145.take ((wrap64 ((t145.length : Int) - 1)) : Int).toNat)) else (none)) else (some t145)) else (none)) else (none)) else (some t145))) = some r := h
  clear h
  replace H := Option.bind_eq_some_iff.mp H
  obtain ⟨t145, A20, H⟩ := H
  replace H : (if (t145.length : Int) > 1 then (if 0 ≤ (wrap64 ((t145.length : Int) - 1)) then (if (wrap64 ((t145.length : Int) - 1)) < (t145.length : Int) then (if (rdOf ByteArray.empty t145 (wrap64 ((t145.length : Int) - 1))).toList = ([] : List UInt8) then (if (wrap64 ((t145.length : Int) - 1)) ≤ (t145.length : Int) then (some (t145.take ((wrap64 ((t145.length : Int) - 1)) : Int).toNat)) else (none)) else (some t145)) else (none)) else (none)) else (some t145)) = some r := H
  have A2 := Aside0.mk A20
  clear A20
  by_cases c3 : (t145.length : Int) > 1
  · rw [if_pos c3] at H
    have c3b0 : decide (1 < (t145.length : Int)) = true := decide_eq_true c3
    have c3b1 : decide (1 < t145.length) = true := decide_eq_true (by omega)
    clear c3
    obtain ⟨ji4, hji4⟩ : ∃ j_ : Int, (wrap64 ((t145.length : Int) - 1)) = j_ := ⟨_, rfl⟩
    replace H : (if 0 ≤ (ji4) then (if (ji4) < (t145.length : Int) then (if (rdOf ByteArray.empty t145 (ji4)).toList = ([] : List UInt8) then (if (ji4) ≤ (t145.length : Int) then (some (t145.take ((ji4) : Int).toNat)) else (none)) else (some t145)) else (none)) else (none)) = some r := by first | (rw [hji4] at H; exact H) | (simp only [hji4] at H ⊢; exact H)
    (try rw [hji4] at A2)
    have hji4w : (IntKind.i64.wrap ((t145.length : Int) - 1)) = ji4 := (i64_w _).trans hji4
    by_cases c5 : 0 ≤ (ji4)
    · rw [if_pos c5] at H
      have c5b0 : decide (0 ≤ (ji4)) = true := decide_eq_true c5
      clear c5
      by_cases c6 : (ji4) < (t145.length : Int)
      · rw [if_pos c6] at H
        have c6b0 : decide ((ji4) < (t145.length : Int)) = true := decide_eq_true c6
        clear c6
        by_cases c7 : (rdOf ByteArray.empty t145 (ji4)).toList = ([] : List UInt8)
        · rw [if_pos c7] at H
          have c7b0 : ((rdOf ByteArray.empty t145 (ji4)).toList == ([] : List UInt8)) = true := beq_iff_eq.mpr c7
          have c7b1 : ((rdOf ByteArray.empty t145 (ji4)).toList != ([] : List UInt8)) = false := bne_eq_false_iff_eq.mpr c7
          clear c7
          by_cases c8 : (ji4) ≤ (t145.length : Int)
          · rw [if_pos c8] at H
            have c8b0 := eq_true c8
            have c8b1 : decide ((ji4) ≤ (t145.length : Int)) = true := decide_eq_true c8
            clear c8
            obtain ⟨y149, hy149⟩ : ∃ y_ : List ByteArray, y_ = (t145.take ((ji4) : Int).toNat) := ⟨_, rfl⟩
            replace H : (some y149) = some r := by first | (rw [hy149]; with_reducible exact H) | (have H2_ := (Option.bind_some _ _).symm.trans H; rw [hy149]; with_reducible exact H2_) | (have H2_ := (Option.bind_some _ _).symm.trans H; with_reducible exact H2_) | with_reducible exact H | (rw [hy149]; exact H) | exact H
            have Ny149 := Aside0.mk hy149
            clear hy149
            obtain rfl := Option.some.inj H
            go_enter Tryz.func142, Tryz.ntmps142
            go_wp2_with (first | ((with_reducible refine gate_callee (f := 176) rfl ?_); refine goesL_ (some 5) rfl rfl Tryz.func176 (by kernel_rfl) rfl #[.string a0, .int .u8 46] rfl (by (try simp only [List.map_toArray, List.map_cons, List.map_nil]); first | done | rfl | (simp only [List.length_drop, List.length_take]; rfl)) ?_; (with_reducible refine (parapetref1_Split.calls k a0 46 t145 _ A2.out).mono ?_); rintro e w9 ⟨v146, rfl, ho0, hb⟩; refine ⟨_, rfl, ?_⟩; have n0_ := Aside0.mk (Kd.R_lower ho0 (below_size (by repeat (first | (with_reducible first | exact HB.out | apply below_alloc | apply pw_below_drewN | apply below_drew1) | exact HB.out)))); have n1_ := Aside0.mk (below_step (by repeat (first | (with_reducible first | exact HB.out | apply below_alloc | apply pw_below_drewN | apply below_drew1) | exact HB.out)) hb); clear HB; have HO147 := n0_; have HB := n1_; clear n0_ n1_; (try clear hb); (try clear hb2); (try clear hk); (try clear hi); (try clear ho0); obtain ⟨Ao10, co10, eo10⟩ := Kd.R_slice HO147.out; subst eo10; have p148 : 0 ≤ ((ji4) : Int) := of_decide_eq_true (by first | (with_reducible assumption) | assumption); have q148 : (ji4) < (t145.length : Int) := of_decide_eq_true (by first | (with_reducible assumption) | assumption); obtain ⟨ad148, e148, hx148_0⟩ := Kd.at_string (Kd.R_reads' HO147.out).2.2 (ji4) p148 q148; cases e148; replace p148 := eq_true p148; replace q148 := eq_true q148; have q11 : ((ji4) : Int) ≤ ((t145.length : Int) : Int) := of_decide_eq_true (by first | (with_reducible assumption) | assumption); obtain ⟨i011, hi011, _, hsz11, _⟩ := info_parts info9; have hcut11 := cut_to (P := Tryz.prog) 22 9 .i64 Tryz.underlying22 hi011 (some ad148) t145.length co10 (ji4) (of_decide_eq_true (by first | (with_reducible assumption) | assumption)) q11 (Kd.R_reads' HO147.out).2.1; have hr11 := Kd.R_take (m := ((ji4) : Int).toNat) HO147.out (by omega); have hy11 : y149.length = ((ji4) : Int).toNat := (by rw [Ny149.out, List.length_take]; omega); rw [← Ny149.out] at hr11; rw [← hy11] at hr11 hcut11; clear hy11 hi011 hsz11 HO147; have HO151 := Aside0.mk hr11; clear hr11; replace q11 := eq_true q11))
            go_ret
            exact ⟨_, by first | rfl | (simp [errW_none, errW_some] <;> rfl) | (simp only [← hji4]; first | rfl | (simp [errW_none, errW_some] <;> rfl)) | (simp [*, errW_none, errW_some] <;> rfl), by (with_reducible repeat (first | apply Kd.R_alloc | apply Kd.R_drewN | apply Kd.R_drew)); exact HO151.out, by repeat (first | (with_reducible first | exact HB.out | apply below_alloc | apply pw_below_drewN | apply below_drew1) | exact HB.out)⟩
          · rw [if_neg c8] at H
            exact absurd H (by simp)
        · rw [if_neg c7] at H
          have c7b0 : ((rdOf ByteArray.empty t145 (ji4)).toList == ([] : List UInt8)) = false := beq_eq_false_iff_ne.mpr c7
          have c7b1 : ((rdOf ByteArray.empty t145 (ji4)).toList != ([] : List UInt8)) = true := bne_iff_ne.mpr c7
          obtain rfl := Option.some.inj H
          go_enter Tryz.func142, Tryz.ntmps142
          go_wp2_with (first | ((with_reducible refine gate_callee (f := 176) rfl ?_); refine goesL_ (some 5) rfl rfl Tryz.func176 (by kernel_rfl) rfl #[.string a0, .int .u8 46] rfl (by (try simp only [List.map_toArray, List.map_cons, List.map_nil]); first | done | rfl | (simp only [List.length_drop, List.length_take]; rfl)) ?_; (with_reducible refine (parapetref1_Split.calls k a0 46 t145 _ A2.out).mono ?_); rintro e w12 ⟨v146, rfl, ho0, hb⟩; refine ⟨_, rfl, ?_⟩; have n0_ := Aside0.mk (Kd.R_lower ho0 (below_size (by repeat (first | (with_reducible first | exact HB.out | apply below_alloc | apply pw_below_drewN | apply below_drew1) | exact HB.out)))); have n1_ := Aside0.mk (below_step (by repeat (first | (with_reducible first | exact HB.out | apply below_alloc | apply pw_below_drewN | apply below_drew1) | exact HB.out)) hb); clear HB; have HO147 := n0_; have HB := n1_; clear n0_ n1_; (try clear hb); (try clear hb2); (try clear hk); (try clear hi); (try clear ho0); obtain ⟨Ao13, co13, eo13⟩ := Kd.R_slice HO147.out; subst eo13; have p148 : 0 ≤ ((ji4) : Int) := of_decide_eq_true (by first | (with_reducible assumption) | assumption); have q148 : (ji4) < (t145.length : Int) := of_decide_eq_true (by first | (with_reducible assumption) | assumption); obtain ⟨ad148, e148, hx148_0⟩ := Kd.at_string (Kd.R_reads' HO147.out).2.2 (ji4) p148 q148; cases e148; replace p148 := eq_true p148; replace q148 := eq_true q148))
          go_ret
          exact ⟨_, by first | rfl | (simp [errW_none, errW_some] <;> rfl) | (simp only [← hji4]; first | rfl | (simp [errW_none, errW_some] <;> rfl)) | (simp [*, errW_none, errW_some] <;> rfl), by (with_reducible repeat (first | apply Kd.R_alloc | apply Kd.R_drewN | apply Kd.R_drew)); exact HO147.out, by repeat (first | (with_reducible first | exact HB.out | apply below_alloc | apply pw_below_drewN | apply below_drew1) | exact HB.out)⟩
      · rw [if_neg c6] at H
        exact absurd H (by simp)
    · rw [if_neg c5] at H
      exact absurd H (by simp)
  · rw [if_neg c3] at H
    have c3b0 : decide (1 < (t145.length : Int)) = false := decide_eq_false c3
    have c3b1 : decide (1 < t145.length) = false := decide_eq_false (by omega)
    clear c3
    obtain rfl := Option.some.inj H
    go_enter Tryz.func142, Tryz.ntmps142
    go_wp2_with (first | ((with_reducible refine gate_callee (f := 176) rfl ?_); refine goesL_ (some 5) rfl rfl Tryz.func176 (by kernel_rfl) rfl #[.string a0, .int .u8 46] rfl (by (try simp only [List.map_toArray, List.map_cons, List.map_nil]); first | done | rfl | (simp only [List.length_drop, List.length_take]; rfl)) ?_; (with_reducible refine (parapetref1_Split.calls k a0 46 t145 _ A2.out).mono ?_); rintro e w14 ⟨v146, rfl, ho0, hb⟩; refine ⟨_, rfl, ?_⟩; have n0_ := Aside0.mk (Kd.R_lower ho0 (below_size (by repeat (first | (with_reducible first | exact HB.out | apply below_alloc | apply pw_below_drewN | apply below_drew1) | exact HB.out)))); have n1_ := Aside0.mk (below_step (by repeat (first | (with_reducible first | exact HB.out | apply below_alloc | apply pw_below_drewN | apply below_drew1) | exact HB.out)) hb); clear HB; have HO147 := n0_; have HB := n1_; clear n0_ n1_; (try clear hb); (try clear hb2); (try clear hk); (try clear hi); (try clear ho0); obtain ⟨Ao15, co15, eo15⟩ := Kd.R_slice HO147.out; subst eo15))
    go_ret
    exact ⟨_, by first | rfl | (simp [errW_none, errW_some] <;> rfl) | (simp [*, errW_none, errW_some] <;> rfl), by (with_reducible repeat (first | apply Kd.R_alloc | apply Kd.R_drewN | apply Kd.R_drew)); exact HO147.out, by repeat (first | (with_reducible first | exact HB.out | apply below_alloc | apply pw_below_drewN | apply below_drew1) | exact HB.out)⟩
end Go.Proofs.YtcmcopieagpppaaGreatDoor.P
namespace Go.Proofs.YtcmcopieagpppaaGreatDoor.P
open Go.RowKit Go.Proofs.YtcmcopieagpppaaGreatDoorW.PrintWords Go.Proofs.YtcmcopieagpppaaGreatDoorW.PrintLast Go.Proofs.YtcmcopieagpppaaGreatDoorW.PrintMore
attribute [local go_sem] max2_int min2_int max_two min_two max_three min_three max_four min_four
set_option linter.unusedVariables false
set_option linter.unusedSimpArgs false
mutual
def parapetref9_part.j1 : Nat → ByteArray → Int → Option (Int × Bool)
  | 0, _, _ => none
  | k + 1, x0, x4 => (parapetref9_digits.f x0 x4).bind fun t152 => (if t152 = true then (parapetref9_part.l0 k x0 x4 0 0) else (some (0, false)))
def parapetref9_part.l0 : Nat → ByteArray → Int → Int → Int → Option (Int × Bool)
  | 0, _, _, _, _ => none
  | k + 1, x0, x4, x5, x6 => if x6 < (x0.size : Int) then (if 0 ≤ x6 then ((parapetref9_hex.f k (bt x0 x6)).bind fun t153 => (if (IntKind.u64.wrap ((IntKind.u64.wrap (x5 * (IntKind.u64.wrap (x4)))) + (IntKind.u64.wrap (t153)))) ≥ 4294967296 then (some (0, false)) else (parapetref9_part.l0 k x0 x4 (IntKind.u64.wrap ((IntKind.u64.wrap (x5 * (IntKind.u64.wrap (x4)))) + (IntKind.u64.wrap (t153)))) (wrap64 (x6 + 1))))) else (none)) else (some (x5, true))
def parapetref9_part.j0 : Nat → ByteArray → Int → Bool → Option (Int × Bool)
  | 0, _, _, _ => none
  | k + 1, x0, x4, x7 => if x7 = true then (if 2 ≤ (x0.size : Int) then (if (x0.extract 2 x0.size).toList = ([] : List UInt8) then (some (0, true)) else (parapetref9_part.j1 k (x0.extract 2 x0.size) 16)) else (none)) else (if (x0.size : Int) ≥ 2 then (if 0 < (x0.size : Int) then (if (bt x0 0) = 48 then (if 1 ≤ (x0.size : Int) then (parapetref9_part.j1 k (x0.extract 1 x0.size) 8) else (none)) else (parapetref9_part.j1 k x0 x4)) else (none)) else (parapetref9_part.j1 k x0 x4))
end
def parapetref9_part.f (k : Nat) (a0 : ByteArray) : Option (Int × Bool) := if (a0.size : Int) ≥ 2 then (if 0 < (a0.size : Int) then (if (bt a0 0) = 48 then (if 1 < (a0.size : Int) then (if (bt a0 1) = 120 then (parapetref9_part.j0 k a0 10 true) else (parapetref9_part.j0 k a0 10 ((bt a0 1) == 88))) else (none)) else (parapetref9_part.j0 k a0 10 false)) else (none)) else (parapetref9_part.j0 k a0 10 false)
set_option maxHeartbeats 8000000 in
set_option maxRecDepth 100000 in
theorem parapetref9_part.calls (k : Nat) (a0 : ByteArray) (r1 : Int) (r2 : Bool) (w : World) (h : parapetref9_part.f k a0 = some (r1, r2)) :
    Calls Tryz.prog 143 #[.string a0] w fun e w' => e = .returned (.tuple #[.int .u64 r1, .bool r2]) ∧ Drawn0 w w' := by
  have H : (if (a0.size : Int) ≥ 2 then (if 0 < (a0.size : Int) then (if (bt a0 0) = 48 then (if 1 < (a0.size : Int) then (if (bt a0 1) = 120 then (parapetref9_part.j0 k a0 10 true) else (parapetref9_part.j0 k a0 10 ((bt a0 1) == 88))) else (none)) else (parapetref9_part.j0 k a0 10 false)) else (none)) else (parapetref9_part.j0 k a0 10 false)) = some (r1, r2) := h
  clear h
  have HC2 := Aside0.mk H
  clear H
  go_enter Tryz.func143, Tryz.ntmps143
  go_upto_block 0 with (fail)
  go_cut [0, 4] (fun v0 v4 wc => ∃ (kq : Nat) (x0_1 : ByteArray) (x4_1 : Int), v0 = .string x0_1 ∧ v4 = .int .i64 x4_1 ∧ Aside0 (parapetref9_part.j1 kq x0_1 x4_1 = some (r1, r2)) ∧ Aside0 (kq ≤ k) ∧ Drawn0 w wc)
  case first =>
    have H := HC2.out
    clear HC2
    have HC3 := Aside0.mk H
    clear H
    go_upto_region 2 with (fail)
    go_cut [7] (fun v7 wc => ∃ (kq : Nat) (x7_2 : Bool), v7 = .bool x7_2 ∧ Aside0 (parapetref9_part.j0 kq a0 10 x7_2 = some (r1, r2)) ∧ Aside0 (kq ≤ k) ∧ Drawn0 w wc)
    case first =>
      have H := HC3.out
      clear HC3
      by_cases c4 : (a0.size : Int) ≥ 2
      · rw [if_pos c4] at H
        have c4b0 : decide (2 ≤ (a0.size : Int)) = true := decide_eq_true c4
        have c4b1 : decide (2 ≤ a0.size) = true := decide_eq_true (by omega)
        clear c4
        (first | rw [c4b0] | (simp only [i64_w, i32_w]; rw [c4b0]) | skip)
        by_cases c5 : 0 < (a0.size : Int)
        · rw [if_pos c5] at H
          have c5b0 : decide (0 < (a0.size : Int)) = true := decide_eq_true c5
          have c5b1 : decide (0 < a0.size) = true := decide_eq_true (by omega)
          clear c5
          by_cases c7 : (bt a0 0) = 48
          · rw [if_pos c7] at H
            have c7b0 : ((bt a0 0) == 48) = true := beq_iff_eq.mpr c7
            have c7b1 : ((bt a0 0) != 48) = false := bne_eq_false_iff_eq.mpr c7
            clear c7
            by_cases c8 : 1 < (a0.size : Int)
            · rw [if_pos c8] at H
              have c8b0 : decide (1 < (a0.size : Int)) = true := decide_eq_true c8
              have c8b1 : decide (1 < a0.size) = true := decide_eq_true (by omega)
              clear c8
              by_cases c10 : (bt a0 1) = 120
              · rw [if_pos c10] at H
                have c10b0 : ((bt a0 1) == 120) = true := beq_iff_eq.mpr c10
                have c10b1 : ((bt a0 1) != 120) = false := bne_eq_false_iff_eq.mpr c10
                clear c10
                have H' := Aside0.mk H
                clear H
                have p6 : 0 ≤ (0 : Int) := (by omega)
                have q6 : 0 < a0.size := (by have : (0 : Int) < (a0.size : Int) := of_decide_eq_true (by first | (with_reducible assumption) | assumption); omega)
                have hx6 : ∀ h : 0 < a0.size, ((a0[0]'h).toNat : Int) = bt a0 0 := bt_at a0 0
                clear p6
                have qi6 : (0 < (a0.size : Int)) = True := eq_true (of_decide_eq_true (by first | (with_reducible assumption) | assumption))
                replace q6 := eq_true q6
                have p9 : 0 ≤ (1 : Int) := (by omega)
                have q9 : 1 < a0.size := (by have : (1 : Int) < (a0.size : Int) := of_decide_eq_true (by first | (with_reducible assumption) | assumption); omega)
                have hx9 : ∀ h : 1 < a0.size, ((a0[1]'h).toNat : Int) = bt a0 1 := bt_at a0 1
                clear p9
                have qi9 : (1 < (a0.size : Int)) = True := eq_true (of_decide_eq_true (by first | (with_reducible assumption) | assumption))
                replace q9 := eq_true q9
                go_wp2
                go_meet
                case rel => exact ⟨_, (true), (by first | rfl | (simp; done) | (simp [*]; done)), H', ⟨by first | omega | exact Nat.le_refl _⟩, by repeat (first | exact Drawn0.refl _ | apply Drawn0.step)⟩
              · rw [if_neg c10] at H
                have c10b0 : ((bt a0 1) == 120) = false := beq_eq_false_iff_ne.mpr c10
                have c10b1 : ((bt a0 1) != 120) = true := bne_iff_ne.mpr c10
                have H' := Aside0.mk H
                clear H
                have p6 : 0 ≤ (0 : Int) := (by omega)
                have q6 : 0 < a0.size := (by have : (0 : Int) < (a0.size : Int) := of_decide_eq_true (by first | (with_reducible assumption) | assumption); omega)
                have hx6 : ∀ h : 0 < a0.size, ((a0[0]'h).toNat : Int) = bt a0 0 := bt_at a0 0
                clear p6
                have qi6 : (0 < (a0.size : Int)) = True := eq_true (of_decide_eq_true (by first | (with_reducible assumption) | assumption))
                replace q6 := eq_true q6
                have p9 : 0 ≤ (1 : Int) := (by omega)
                have q9 : 1 < a0.size := (by have : (1 : Int) < (a0.size : Int) := of_decide_eq_true (by first | (with_reducible assumption) | assumption); omega)
                have hx9 : ∀ h : 1 < a0.size, ((a0[1]'h).toNat : Int) = bt a0 1 := bt_at a0 1
                clear p9
                have qi9 : (1 < (a0.size : Int)) = True := eq_true (of_decide_eq_true (by first | (with_reducible assumption) | assumption))
                replace q9 := eq_true q9
                have p11 : 0 ≤ (1 : Int) := (by omega)
                have q11 : 1 < a0.size := (by have : (1 : Int) < (a0.size : Int) := of_decide_eq_true (by first | (with_reducible assumption) | assumption); omega)
                have hx11 : ∀ h : 1 < a0.size, ((a0[1]'h).toNat : Int) = bt a0 1 := bt_at a0 1
                clear p11
                have qi11 : (1 < (a0.size : Int)) = True := eq_true (of_decide_eq_true (by first | (with_reducible assumption) | assumption))
                replace q11 := eq_true q11
                go_wp2
                go_meet
                case rel => exact ⟨_, (((bt a0 1) == 88)), (by first | rfl | (simp; done) | (simp [*]; done)), H', ⟨by first | omega | exact Nat.le_refl _⟩, by repeat (first | exact Drawn0.refl _ | apply Drawn0.step)⟩
            · rw [if_neg c8] at H
              exact absurd H (by simp)
          · rw [if_neg c7] at H
            have c7b0 : ((bt a0 0) == 48) = false := beq_eq_false_iff_ne.mpr c7
            have c7b1 : ((bt a0 0) != 48) = true := bne_iff_ne.mpr c7
            have H' := Aside0.mk H
            clear H
            have p6 : 0 ≤ (0 : Int) := (by omega)
            have q6 : 0 < a0.size := (by have : (0 : Int) < (a0.size : Int) := of_decide_eq_true (by first | (with_reducible assumption) | assumption); omega)
            have hx6 : ∀ h : 0 < a0.size, ((a0[0]'h).toNat : Int) = bt a0 0 := bt_at a0 0
            clear p6
            have qi6 : (0 < (a0.size : Int)) = True := eq_true (of_decide_eq_true (by first | (with_reducible assumption) | assumption))
            replace q6 := eq_true q6
            go_wp2
            go_meet
            case rel => exact ⟨_, (false), (by first | rfl | (simp; done) | (simp [*]; done)), H', ⟨by first | omega | exact Nat.le_refl _⟩, by repeat (first | exact Drawn0.refl _ | apply Drawn0.step)⟩
        · rw [if_neg c5] at H
          exact absurd H (by simp)
      · rw [if_neg c4] at H
        have c4b0 : decide (2 ≤ (a0.size : Int)) = false := decide_eq_false c4
        have c4b1 : decide (2 ≤ a0.size) = false := decide_eq_false (by omega)
        clear c4
        (first | rw [c4b0] | (simp only [i64_w, i32_w]; rw [c4b0]) | skip)
        have H' := Aside0.mk H
        clear H
        go_wp2
        go_meet
        case rel => exact ⟨_, (false), (by first | rfl | (simp; done) | (simp [*]; done)), H', ⟨by first | omega | exact Nat.le_refl _⟩, by repeat (first | exact Drawn0.refl _ | apply Drawn0.step)⟩
    case rest =>
      clear HC3
      try clear c1
      try clear p1
      try clear q1
      try clear hx1
      try clear qi1
      try clear p2
      try clear c4
      try clear c4b0
      try clear c4b1
      try clear c5
      try clear c5b0
      try clear c5b1
      try clear p6
      try clear q6
      try clear hx6
      try clear qi6
      try clear c7
      try clear c7b0
      try clear c7b1
      try clear c8
      try clear c8b0
      try clear c8b1
      try clear p9
      try clear q9
      try clear hx9
      try clear qi9
      try clear c10
      try clear c10b0
      try clear c10b1
      try clear p11
      try clear q11
      try clear hx11
      try clear qi11
      try clear p11
      try clear p6
      try clear p9
      try clear q11
      try clear q6
      try clear q9
      obtain ⟨kq, x7_2, rfl, HA, HJ2, ⟨mc2, rfl⟩⟩ := hcut
      cases kq with
      | zero => exact absurd HA.out (by simp [parapetref9_part.j0])
      | succ kj2 =>
        have H := HA.out
        clear HA
        simp only [parapetref9_part.j0] at H
        by_cases c12 : x7_2 = true
        · subst c12
          have H1 : (if 2 ≤ (a0.size : Int) then (if (a0.extract 2 a0.size).toList = ([] : List UInt8) then (some (0, true)) else (parapetref9_part.j1 kj2 (a0.extract 2 a0.size) 16)) else (none)) = some (r1, r2) := by rw [if_pos rfl] at H; exact H
          clear H
          have H := H1
          clear H1
          by_cases c13 : 2 ≤ (a0.size : Int)
          · rw [if_pos c13] at H
            have c13b0 := eq_true c13
            have c13b1 : decide (2 ≤ (a0.size : Int)) = true := decide_eq_true c13
            clear c13
            by_cases c14 : (a0.extract 2 a0.size).toList = ([] : List UInt8)
            · rw [if_pos c14] at H
              have c14b0 : ((a0.extract 2 a0.size).toList == ([] : List UInt8)) = true := beq_iff_eq.mpr c14
              have c14b1 : ((a0.extract 2 a0.size).toList != ([] : List UInt8)) = false := bne_eq_false_iff_eq.mpr c14
              clear c14
              simp only [Option.some.injEq, Prod.mk.injEq] at H
              obtain ⟨rfl, rfl⟩ := H
              go_wp2
              go_ret2
              exact ⟨by first | rfl | (simp; done) | (simp [*]; done), by repeat (first | exact Drawn0.refl _ | apply Drawn0.step)⟩
            · rw [if_neg c14] at H
              have c14b0 : ((a0.extract 2 a0.size).toList == ([] : List UInt8)) = false := beq_eq_false_iff_ne.mpr c14
              have c14b1 : ((a0.extract 2 a0.size).toList != ([] : List UInt8)) = true := bne_iff_ne.mpr c14
              have H' := Aside0.mk H
              clear H
              go_wp2
              go_meet
              case rel => exact ⟨_, (a0.extract 2 a0.size), (16), (by first | rfl | (simp; done) | (simp [*]; done)), (by first | rfl | (simp; done) | (simp [*]; done)), H', ⟨by have := HJ2.out; first | omega | exact Nat.le_refl _⟩, by repeat (first | exact Drawn0.refl _ | apply Drawn0.step)⟩
          · rw [if_neg c13] at H
            exact absurd H (by simp)
        · replace c12 := Bool.eq_false_iff.mpr c12
          subst c12
          have H1 : (if (a0.size : Int) ≥ 2 then (if 0 < (a0.size : Int) then (if (bt a0 0) = 48 then (if 1 ≤ (a0.size : Int) then (parapetref9_part.j1 kj2 (a0.extract 1 a0.size) 8) else (none)) else (parapetref9_part.j1 kj2 a0 10)) else (none)) else (parapetref9_part.j1 kj2 a0 10)) = some (r1, r2) := by rw [if_neg (show ¬ (false = true) by decide)] at H; exact H
          clear H
          have H := H1
          clear H1
          by_cases c15 : (a0.size : Int) ≥ 2
          · rw [if_pos c15] at H
            have c15b0 : decide (2 ≤ (a0.size : Int)) = true := decide_eq_true c15
            have c15b1 : decide (2 ≤ a0.size) = true := decide_eq_true (by omega)
            clear c15
            by_cases c16 : 0 < (a0.size : Int)
            · rw [if_pos c16] at H
              have c16b0 : decide (0 < (a0.size : Int)) = true := decide_eq_true c16
              have c16b1 : decide (0 < a0.size) = true := decide_eq_true (by omega)
              clear c16
              by_cases c18 : (bt a0 0) = 48
              · rw [if_pos c18] at H
                have c18b0 : ((bt a0 0) == 48) = true := beq_iff_eq.mpr c18
                have c18b1 : ((bt a0 0) != 48) = false := bne_eq_false_iff_eq.mpr c18
                clear c18
                by_cases c19 : 1 ≤ (a0.size : Int)
                · rw [if_pos c19] at H
                  have c19b0 := eq_true c19
                  have c19b1 : decide (1 ≤ (a0.size : Int)) = true := decide_eq_true c19
                  clear c19
                  have H' := Aside0.mk H
                  clear H
                  have p17 : 0 ≤ (0 : Int) := (by omega)
                  have q17 : 0 < a0.size := (by have : (0 : Int) < (a0.size : Int) := of_decide_eq_true (by first | (with_reducible assumption) | assumption); omega)
                  have hx17 : ∀ h : 0 < a0.size, ((a0[0]'h).toNat : Int) = bt a0 0 := bt_at a0 0
                  clear p17
                  have qi17 : (0 < (a0.size : Int)) = True := eq_true (of_decide_eq_true (by first | (with_reducible assumption) | assumption))
                  replace q17 := eq_true q17
                  go_wp2
                  go_meet
                  case rel => exact ⟨_, (a0.extract 1 a0.size), (8), (by first | rfl | (simp; done) | (simp [*]; done)), (by first | rfl | (simp; done) | (simp [*]; done)), H', ⟨by have := HJ2.out; first | omega | exact Nat.le_refl _⟩, by repeat (first | exact Drawn0.refl _ | apply Drawn0.step)⟩
                · rw [if_neg c19] at H
                  exact absurd H (by simp)
              · rw [if_neg c18] at H
                have c18b0 : ((bt a0 0) == 48) = false := beq_eq_false_iff_ne.mpr c18
                have c18b1 : ((bt a0 0) != 48) = true := bne_iff_ne.mpr c18
                have H' := Aside0.mk H
                clear H
                have p17 : 0 ≤ (0 : Int) := (by omega)
                have q17 : 0 < a0.size := (by have : (0 : Int) < (a0.size : Int) := of_decide_eq_true (by first | (with_reducible assumption) | assumption); omega)
                have hx17 : ∀ h : 0 < a0.size, ((a0[0]'h).toNat : Int) = bt a0 0 := bt_at a0 0
                clear p17
                have qi17 : (0 < (a0.size : Int)) = True := eq_true (of_decide_eq_true (by first | (with_reducible assumption) | assumption))
                replace q17 := eq_true q17
                go_wp2
                go_meet
                case rel => exact ⟨_, (a0), (10), (by first | rfl | (simp; done) | (simp [*]; done)), (by first | rfl | (simp; done) | (simp [*]; done)), H', ⟨by have := HJ2.out; first | omega | exact Nat.le_refl _⟩, by repeat (first | exact Drawn0.refl _ | apply Drawn0.step)⟩
            · rw [if_neg c16] at H
              exact absurd H (by simp)
          · rw [if_neg c15] at H
            have c15b0 : decide (2 ≤ (a0.size : Int)) = false := decide_eq_false c15
            have c15b1 : decide (2 ≤ a0.size) = false := decide_eq_false (by omega)
            clear c15
            have H' := Aside0.mk H
            clear H
            go_wp2
            go_meet
            case rel => exact ⟨_, (a0), (10), (by first | rfl | (simp; done) | (simp [*]; done)), (by first | rfl | (simp; done) | (simp [*]; done)), H', ⟨by have := HJ2.out; first | omega | exact Nat.le_refl _⟩, by repeat (first | exact Drawn0.refl _ | apply Drawn0.step)⟩
  case rest =>
    clear HC2
    try clear c1
    try clear p1
    try clear q1
    try clear hx1
    try clear qi1
    try clear c2
    try clear p2
    try clear c4
    try clear c4b0
    try clear c4b1
    try clear c5
    try clear c5b0
    try clear c5b1
    try clear p6
    try clear q6
    try clear hx6
    try clear qi6
    try clear c7
    try clear c7b0
    try clear c7b1
    try clear c8
    try clear c8b0
    try clear c8b1
    try clear p9
    try clear q9
    try clear hx9
    try clear qi9
    try clear c10
    try clear c10b0
    try clear c10b1
    try clear p11
    try clear q11
    try clear hx11
    try clear qi11
    try clear c12
    try clear c13
    try clear c13b0
    try clear c13b1
    try clear c14
    try clear c14b0
    try clear c14b1
    try clear c15
    try clear c15b0
    try clear c15b1
    try clear c16
    try clear c16b0
    try clear c16b1
    try clear p17
    try clear q17
    try clear hx17
    try clear qi17
    try clear c18
    try clear c18b0
    try clear c18b1
    try clear c19
    try clear c19b0
    try clear c19b1
    try clear p1
    try clear p11
    try clear p17
    try clear p2
    try clear p6
    try clear p9
    try clear q1
    try clear q11
    try clear q17
    try clear q6
    try clear q9
    obtain ⟨kq, x0_1, x4_1, rfl, rfl, HA, HJ1, ⟨mc1, rfl⟩⟩ := hcut
    cases kq with
    | zero => exact absurd HA.out (by simp [parapetref9_part.j1])
    | succ kj1 =>
      have H := HA.out
      clear HA
      simp only [parapetref9_part.j1] at H
      replace H := Option.bind_eq_some_iff.mp H
      obtain ⟨t152, A200, H⟩ := H
      replace H : (if t152 = true then (parapetref9_part.l0 kj1 x0_1 x4_1 0 0) else (some (0, false))) = some (r1, r2) := H
      have A20 := Aside0.mk A200
      clear A200
      by_cases c21 : t152 = true
      · subst c21
        have H1 : (parapetref9_part.l0 kj1 x0_1 x4_1 0 0) = some (r1, r2) := by rw [if_pos rfl] at H; exact H
        clear H
        have H := H1
        clear H1
        have H' := Aside0.mk H
        clear H
        go_wp2_with (first | ((with_reducible refine gate_callee (f := 100) rfl ?_); refine goesL_ (some 43) rfl rfl Tryz.func100 (by kernel_rfl) rfl #[.string x0_1, .int .i64 x4_1] rfl (by (try simp only [List.map_toArray, List.map_cons, List.map_nil]); first | done | rfl | (simp only [List.length_drop, List.length_take]; rfl)) ?_; (with_reducible refine (parapetref9_digits.calls x0_1 x4_1 true _ A20.out).mono ?_); rintro e w' ⟨rfl, ⟨nd, rfl⟩⟩; refine ⟨_, rfl, ?_⟩))
        go_loopg [5, 6] kj1 (fun kq v5 v6 w' => ∃ (x5_2 : Int) (x6_2 : Int), v5 = .int .u64 x5_2 ∧ v6 = .int .i64 x6_2 ∧ Aside0 (parapetref9_part.l0 kq x0_1 x4_1 x5_2 x6_2 = some (r1, r2)) ∧ Aside0 (kq ≤ kj1) ∧ Drawn0 w w')
        case atStart => exact ⟨(0), (0), (by first | rfl | (simp; done) | (simp [*]; done)), (by first | rfl | (simp; done) | (simp [*]; done)), H', ⟨Nat.le_refl _⟩, by repeat (first | exact Drawn0.refl _ | apply Drawn0.step)⟩
        case round =>
          clear H'
          try clear c1
          try clear p1
          try clear q1
          try clear hx1
          try clear qi1
          try clear c2
          try clear p2
          try clear c4
          try clear c4b0
          try clear c4b1
          try clear c5
          try clear c5b0
          try clear c5b1
          try clear p6
          try clear q6
          try clear hx6
          try clear qi6
          try clear c7
          try clear c7b0
          try clear c7b1
          try clear c8
          try clear c8b0
          try clear c8b1
          try clear p9
          try clear q9
          try clear hx9
          try clear qi9
          try clear c10
          try clear c10b0
          try clear c10b1
          try clear p11
          try clear q11
          try clear hx11
          try clear qi11
          try clear c12
          try clear c13
          try clear c13b0
          try clear c13b1
          try clear c14
          try clear c14b0
          try clear c14b1
          try clear c15
          try clear c15b0
          try clear c15b1
          try clear c16
          try clear c16b0
          try clear c16b1
          try clear p17
          try clear q17
          try clear hx17
          try clear qi17
          try clear c18
          try clear c18b0
          try clear c18b1
          try clear c19
          try clear c19b0
          try clear c19b1
          try clear c21
          try clear p1
          try clear p11
          try clear p17
          try clear p2
          try clear p6
          try clear p9
          try clear q1
          try clear q11
          try clear q17
          try clear q6
          try clear q9
          obtain ⟨x5_2, x6_2, rfl, rfl, HA, HK2, ⟨m2, rfl⟩⟩ := hrel
          cases gk with
          | zero => exact absurd HA.out (by simp [parapetref9_part.l0])
          | succ k2 =>
            have H := HA.out
            clear HA
            simp only [parapetref9_part.l0] at H
            by_cases c22 : x6_2 < (x0_1.size : Int)
            · rw [if_pos c22] at H
              have c22b0 : decide (x6_2 < (x0_1.size : Int)) = true := decide_eq_true c22
              clear c22
              by_cases c23 : 0 ≤ x6_2
              · rw [if_pos c23] at H
                have c23b0 : decide (0 ≤ x6_2) = true := decide_eq_true c23
                clear c23
                replace H := Option.bind_eq_some_iff.mp H
                obtain ⟨t153, A250, H⟩ := H
                replace H : (if (IntKind.u64.wrap ((IntKind.u64.wrap (x5_2 * (IntKind.u64.wrap (x4_1)))) + (IntKind.u64.wrap (t153)))) ≥ 4294967296 then (some (0, false)) else (parapetref9_part.l0 k2 x0_1 x4_1 (IntKind.u64.wrap ((IntKind.u64.wrap (x5_2 * (IntKind.u64.wrap (x4_1)))) + (IntKind.u64.wrap (t153)))) (wrap64 (x6_2 + 1)))) = some (r1, r2) := H
                have A25 := Aside0.mk A250
                clear A250
                by_cases c26 : (IntKind.u64.wrap ((IntKind.u64.wrap (x5_2 * (IntKind.u64.wrap (x4_1)))) + (IntKind.u64.wrap (t153)))) ≥ 4294967296
                · rw [if_pos c26] at H
                  have c26b0 : decide (4294967296 ≤ (IntKind.u64.wrap ((IntKind.u64.wrap (x5_2 * (IntKind.u64.wrap (x4_1)))) + (IntKind.u64.wrap (t153))))) = true := decide_eq_true c26
                  clear c26
                  simp only [Option.some.injEq, Prod.mk.injEq] at H
                  obtain ⟨rfl, rfl⟩ := H
                  have p24 : 0 ≤ (x6_2 : Int) := of_decide_eq_true (by first | (with_reducible assumption) | assumption)
                  have q24 : x6_2 < (x0_1.size : Int) := of_decide_eq_true (by first | (with_reducible assumption) | assumption)
                  have hx24 := bt_at x0_1 x6_2
                  replace p24 := eq_true p24
                  replace q24 := eq_true q24
                  go_wp2_with (first | ((with_reducible refine gate_callee (f := 139) rfl ?_); refine goesL_ (some 58) rfl rfl Tryz.func139 (by kernel_rfl) rfl #[.int .u8 (bt x0_1 x6_2)] rfl (by (try simp only [List.map_toArray, List.map_cons, List.map_nil]); first | done | rfl | (simp only [List.length_drop, List.length_take]; rfl)) ?_; (with_reducible refine (parapetref9_hex.calls k2 (bt x0_1 x6_2) t153 _ A25.out).mono ?_); rintro e w' ⟨rfl, ⟨nd, rfl⟩⟩; refine ⟨_, rfl, ?_⟩))
                  go_ret2
                  exact ⟨by first | rfl | (simp; done) | (simp [*]; done), by repeat (first | exact Drawn0.refl _ | apply Drawn0.step)⟩
                · rw [if_neg c26] at H
                  have c26b0 : decide (4294967296 ≤ (IntKind.u64.wrap ((IntKind.u64.wrap (x5_2 * (IntKind.u64.wrap (x4_1)))) + (IntKind.u64.wrap (t153))))) = false := decide_eq_false c26
                  clear c26
                  have H' := Aside0.mk H
                  clear H
                  have p24 : 0 ≤ (x6_2 : Int) := of_decide_eq_true (by first | (with_reducible assumption) | assumption)
                  have q24 : x6_2 < (x0_1.size : Int) := of_decide_eq_true (by first | (with_reducible assumption) | assumption)
                  have hx24 := bt_at x0_1 x6_2
                  replace p24 := eq_true p24
                  replace q24 := eq_true q24
                  go_wp2_with (first | ((with_reducible refine gate_callee (f := 139) rfl ?_); refine goesL_ (some 58) rfl rfl Tryz.func139 (by kernel_rfl) rfl #[.int .u8 (bt x0_1 x6_2)] rfl (by (try simp only [List.map_toArray, List.map_cons, List.map_nil]); first | done | rfl | (simp only [List.length_drop, List.length_take]; rfl)) ?_; (with_reducible refine (parapetref9_hex.calls k2 (bt x0_1 x6_2) t153 _ A25.out).mono ?_); rintro e w' ⟨rfl, ⟨nd, rfl⟩⟩; refine ⟨_, rfl, ?_⟩))
                  go_roundg k2
                  case measure => have := HJ1.out; have := HK2.out; omega
                  case rel => exact ⟨(IntKind.u64.wrap ((IntKind.u64.wrap (x5_2 * (IntKind.u64.wrap (x4_1)))) + (IntKind.u64.wrap (t153)))), (wrap64 (x6_2 + 1)), (by first | rfl | (simp; done) | (simp [*]; done)), (by first | rfl | (simp; done) | (simp [*]; done)), H', ⟨by have := HJ1.out; have := HK2.out; omega⟩, by repeat (first | exact Drawn0.refl _ | apply Drawn0.step)⟩
              · rw [if_neg c23] at H
                exact absurd H (by simp)
            · rw [if_neg c22] at H
              have c22b0 : decide (x6_2 < (x0_1.size : Int)) = false := decide_eq_false c22
              clear c22
              simp only [Option.some.injEq, Prod.mk.injEq] at H
              obtain ⟨rfl, rfl⟩ := H
              go_wp2
              go_ret2
              exact ⟨by first | rfl | (simp; done) | (simp [*]; done), by repeat (first | exact Drawn0.refl _ | apply Drawn0.step)⟩
      · replace c21 := Bool.eq_false_iff.mpr c21
        subst c21
        have H1 : (some (0, false)) = some (r1, r2) := by rw [if_neg (show ¬ (false = true) by decide)] at H; exact H
        clear H
        have H := H1
        clear H1
        simp only [Option.some.injEq, Prod.mk.injEq] at H
        obtain ⟨rfl, rfl⟩ := H
        go_wp2_with (first | ((with_reducible refine gate_callee (f := 100) rfl ?_); refine goesL_ (some 43) rfl rfl Tryz.func100 (by kernel_rfl) rfl #[.string x0_1, .int .i64 x4_1] rfl (by (try simp only [List.map_toArray, List.map_cons, List.map_nil]); first | done | rfl | (simp only [List.length_drop, List.length_take]; rfl)) ?_; (with_reducible refine (parapetref9_digits.calls x0_1 x4_1 false _ A20.out).mono ?_); rintro e w' ⟨rfl, ⟨nd, rfl⟩⟩; refine ⟨_, rfl, ?_⟩))
        go_ret2
        exact ⟨by first | rfl | (simp; done) | (simp [*]; done), by repeat (first | exact Drawn0.refl _ | apply Drawn0.step)⟩
end Go.Proofs.YtcmcopieagpppaaGreatDoor.P
namespace Go.Proofs.YtcmcopieagpppaaGreatDoor.P
open Go.RowKit Go.Proofs.YtcmcopieagpppaaGreatDoorW.PrintWords Go.Proofs.YtcmcopieagpppaaGreatDoorW.PrintLast Go.Proofs.YtcmcopieagpppaaGreatDoorW.PrintMore
attribute [local go_sem] max2_int min2_int max_two min_two max_three min_three max_four min_four
set_option linter.unusedVariables false
set_option linter.unusedSimpArgs false
mutual
def parapetref9_Number.l0 : Nat → List ByteArray → Int → Int → Option (Int × Bool)
  | 0, _, _, _ => none
  | k + 1, x4, x5, x6 => if x6 < (x4.length : Int) then (if 0 ≤ x6 then ((parapetref9_part.f k (rdOf ByteArray.empty x4 x6)).bind fun bt158 => (if bt158.2 = true then (if (wrap64 (x6 + 1)) < (x4.length : Int) then (if bt158.1 > 255 then (parapetref9_Number.j1 k x4 x5 x6 bt158.1 true) else (if (wrap64 (x6 + 1)) = (x4.length : Int) then (if 0 ≤ (wrap64 (8 * (wrap64 (5 - (x4.length : Int))))) then (parapetref9_Number.j1 k x4 x5 x6 bt158.1 (decide (bt158.1 ≥ (shl .u64 1 (wrap64 (8 * (wrap64 (5 - (x4.length : Int))))))))) else (none)) else (parapetref9_Number.j1 k x4 x5 x6 bt158.1 false))) else (if (wrap64 (x6 + 1)) = (x4.length : Int) then (if 0 ≤ (wrap64 (8 * (wrap64 (5 - (x4.length : Int))))) then (parapetref9_Number.j1 k x4 x5 x6 bt158.1 (decide (bt158.1 ≥ (shl .u64 1 (wrap64 (8 * (wrap64 (5 - (x4.length : Int))))))))) else (none)) else (parapetref9_Number.j1 k x4 x5 x6 bt158.1 false))) else (parapetref9_Number.j1 k x4 x5 x6 bt158.1 true))) else (none)) else (some ((x5) % 4294967296, true))
def parapetref9_Number.j1 : Nat → List ByteArray → Int → Int → Int → Bool → Option (Int × Bool)
  | 0, _, _, _, _, _ => none
  | k + 1, x4, x5, x6, x7, x56 => if x56 = true then (some (0, false)) else (if (wrap64 (x6 + 1)) < (x4.length : Int) then (if 0 ≤ (wrap64 (8 * (wrap64 (3 - x6)))) then (parapetref9_Number.l0 k x4 (IntKind.u64.wrap (x5 + (shl .u64 x7 (wrap64 (8 * (wrap64 (3 - x6))))))) (wrap64 (x6 + 1))) else (none)) else (parapetref9_Number.l0 k x4 (IntKind.u64.wrap (x5 + x7)) (wrap64 (x6 + 1))))
end
def parapetref9_Number.f (k : Nat) (a0 : ByteArray) : Option (Int × Bool) := (parapetref9_parts.f k a0).bind fun t154 => (if (t154.length : Int) > 4 then (some (0, false)) else (parapetref9_Number.l0 k t154 0 0))
set_option maxHeartbeats 8000000 in
set_option maxRecDepth 100000 in
theorem parapetref9_Number.calls (k : Nat) (a0 : ByteArray) (r1 : Int) (r2 : Bool) (w : World) (h : parapetref9_Number.f k a0 = some (r1, r2)) :
    Calls Tryz.prog 109 #[.string a0] w fun e w' => e = .returned (.tuple #[.int .u32 r1, .bool r2]) ∧ Below w.heap.size w w' := by
  have HB := Aside0.mk (Below.refl w.heap.size w)
  have H : ((parapetref9_parts.f k a0).bind fun t154 => (if (t154.length : Int) > 4 then (some (0, false)) else (parapetref9_Number.l0 k t154 0 0))) = some (r1, r2) := h
  clear h
  replace H := Option.bind_eq_some_iff.mp H
  obtain ⟨t154, A20, H⟩ := H
  replace H : (if (t154.length : Int) > 4 then (some (0, false)) else (parapetref9_Number.l0 k t154 0 0)) = some (r1, r2) := H
  have A2 := Aside0.mk A20
  clear A20
  by_cases c3 : (t154.length : Int) > 4
  · rw [if_pos c3] at H
    have c3b0 : decide (4 < (t154.length : Int)) = true := decide_eq_true c3
    have c3b1 : decide (4 < t154.length) = true := decide_eq_true (by omega)
    clear c3
    simp only [Option.some.injEq, Prod.mk.injEq] at H
    obtain ⟨rfl, rfl⟩ := H
    go_enter Tryz.func109, Tryz.ntmps109
    go_wp2_with (first | ((with_reducible refine gate_callee (f := 142) rfl ?_); refine goesL_ (some 10) rfl rfl Tryz.func142 (by kernel_rfl) rfl #[.string a0] rfl (by (try simp only [List.map_toArray, List.map_cons, List.map_nil]); first | done | rfl | (simp only [List.length_drop, List.length_take]; rfl)) ?_; (with_reducible refine (parapetref9_parts.calls k a0 t154 _ A2.out).mono ?_); rintro e w4 ⟨v155, rfl, ho0, hb⟩; refine ⟨_, rfl, ?_⟩; have n0_ := Aside0.mk (Kd.R_lower ho0 (below_size (by repeat (first | (with_reducible first | exact HB.out | apply below_alloc | apply pw_below_drewN | apply below_drew1) | exact HB.out)))); have n1_ := Aside0.mk (below_step (by repeat (first | (with_reducible first | exact HB.out | apply below_alloc | apply pw_below_drewN | apply below_drew1) | exact HB.out)) hb); clear HB; have HO156 := n0_; have HB := n1_; clear n0_ n1_; (try clear hb); (try clear hb2); (try clear hk); (try clear hi); (try clear ho0); obtain ⟨Ao5, co5, eo5⟩ := Kd.R_slice HO156.out; subst eo5))
    go_ret2
    exact ⟨by first | rfl | (simp [errW_none, errW_some] <;> rfl) | (simp [*, errW_none, errW_some] <;> rfl), by repeat (first | (with_reducible first | exact HB.out | apply below_alloc | apply pw_below_drewN | apply below_drew1) | exact HB.out)⟩
  · rw [if_neg c3] at H
    have c3b0 : decide (4 < (t154.length : Int)) = false := decide_eq_false c3
    have c3b1 : decide (4 < t154.length) = false := decide_eq_false (by omega)
    clear c3
    have H' := Aside0.mk H
    clear H
    go_enter Tryz.func109, Tryz.ntmps109
    go_wp2_with (first | ((with_reducible refine gate_callee (f := 142) rfl ?_); refine goesL_ (some 10) rfl rfl Tryz.func142 (by kernel_rfl) rfl #[.string a0] rfl (by (try simp only [List.map_toArray, List.map_cons, List.map_nil]); first | done | rfl | (simp only [List.length_drop, List.length_take]; rfl)) ?_; (with_reducible refine (parapetref9_parts.calls k a0 t154 _ A2.out).mono ?_); rintro e w6 ⟨v155, rfl, ho0, hb⟩; refine ⟨_, rfl, ?_⟩; have n0_ := Aside0.mk (Kd.R_lower ho0 (below_size (by repeat (first | (with_reducible first | exact HB.out | apply below_alloc | apply pw_below_drewN | apply below_drew1) | exact HB.out)))); have n1_ := Aside0.mk (below_step (by repeat (first | (with_reducible first | exact HB.out | apply below_alloc | apply pw_below_drewN | apply below_drew1) | exact HB.out)) hb); clear HB; have HO156 := n0_; have HB := n1_; clear n0_ n1_; (try clear hb); (try clear hb2); (try clear hk); (try clear hi); (try clear ho0); obtain ⟨Ao7, co7, eo7⟩ := Kd.R_slice HO156.out; subst eo7))
    go_loopg [5, 6] k (fun kq v5 v6 w' => ∃ (x5_1 : Int) (x6_1 : Int), v5 = .int .u64 x5_1 ∧ v6 = .int .i64 x6_1 ∧ Aside0 (parapetref9_Number.l0 kq t154 x5_1 x6_1 = some (r1, r2)) ∧ Aside0 (kq ≤ k) ∧ Aside0 (Kd.R Kd.string 9 w' w.heap.size (fun _ => True) (.slice Ao7 t154.length co7) t154) ∧ Aside0 (Below w.heap.size w w'))
    case atStart => exact ⟨(0), (0), (by first | rfl | (simp; done) | (simp [*]; done)), (by first | rfl | (simp; done) | (simp [*]; done)), H', ⟨Nat.le_refl _⟩, ⟨by (with_reducible repeat (first | apply Kd.R_alloc | apply Kd.R_drewN | apply Kd.R_drew)); exact HO156.out⟩, ⟨by repeat (first | (with_reducible first | exact HB.out | apply below_alloc | apply pw_below_drewN | apply below_drew1) | exact HB.out)⟩⟩
    case round =>
      clear H'
      try clear c1
      try clear p2
      try clear c3
      try clear c3b0
      try clear c3b1
      obtain ⟨x5_1, x6_1, rfl, rfl, HA, HK1, HO_4, HB⟩ := hrel
      cases gk with
      | zero => exact absurd HA.out (by simp [parapetref9_Number.l0])
      | succ k1 =>
        have H := HA.out
        clear HA
        simp only [parapetref9_Number.l0] at H
        by_cases c8 : x6_1 < (t154.length : Int)
        · rw [if_pos c8] at H
          have c8b0 : decide (x6_1 < (t154.length : Int)) = true := decide_eq_true c8
          clear c8
          by_cases c9 : 0 ≤ x6_1
          · rw [if_pos c9] at H
            have c9b0 : decide (0 ≤ x6_1) = true := decide_eq_true c9
            clear c9
            replace H := Option.bind_eq_some_iff.mp H
            obtain ⟨⟨t158, t159⟩, A100, H⟩ := H
            replace H : (if t159 = true then (if (wrap64 (x6_1 + 1)) < (t154.length : Int) then (if t158 > 255 then (parapetref9_Number.j1 k1 t154 x5_1 x6_1 t158 true) else (if (wrap64 (x6_1 + 1)) = (t154.length : Int) then (if 0 ≤ (wrap64 (8 * (wrap64 (5 - (t154.length : Int))))) then (parapetref9_Number.j1 k1 t154 x5_1 x6_1 t158 (decide (t158 ≥ (shl .u64 1 (wrap64 (8 * (wrap64 (5 - (t154.length : Int))))))))) else (none)) else (parapetref9_Number.j1 k1 t154 x5_1 x6_1 t158 false))) else (if (wrap64 (x6_1 + 1)) = (t154.length : Int) then (if 0 ≤ (wrap64 (8 * (wrap64 (5 - (t154.length : Int))))) then (parapetref9_Number.j1 k1 t154 x5_1 x6_1 t158 (decide (t158 ≥ (shl .u64 1 (wrap64 (8 * (wrap64 (5 - (t154.length : Int))))))))) else (none)) else (parapetref9_Number.j1 k1 t154 x5_1 x6_1 t158 false))) else (parapetref9_Number.j1 k1 t154 x5_1 x6_1 t158 true)) = some (r1, r2) := H
            have A10 := Aside0.mk A100
            clear A100
            have HC11 := Aside0.mk H
            clear H
            have p157 : 0 ≤ (x6_1 : Int) := of_decide_eq_true (by first | (with_reducible assumption) | assumption)
            have q157 : x6_1 < (t154.length : Int) := of_decide_eq_true (by first | (with_reducible assumption) | assumption)
            obtain ⟨ad157, e157, hx157_0⟩ := Kd.at_string (Kd.R_reads' HO_4.out).2.2 x6_1 p157 q157
            cases e157
            replace p157 := eq_true p157
            replace q157 := eq_true q157
            go_upto_region 9 with (first | ((with_reducible refine gate_callee (f := 143) rfl ?_); refine goesL_ (some 25) rfl rfl Tryz.func143 (by kernel_rfl) rfl #[.string (rdOf ByteArray.empty t154 x6_1)] rfl (by (try simp only [List.map_toArray, List.map_cons, List.map_nil]); first | done | rfl | (simp only [List.length_drop, List.length_take]; rfl)) ?_; (with_reducible refine (parapetref9_part.calls k1 (rdOf ByteArray.empty t154 x6_1) t158 t159 _ A10.out).mono ?_); rintro e w' ⟨rfl, ⟨nd, rfl⟩⟩; refine ⟨_, rfl, ?_⟩))
            (try simp only [Act.put, List.setIfInBounds_toArray, List.set_cons_zero, List.set_cons_succ])
            go_cut [56] (fun v56 wc => ∃ (kq : Nat) (x56_10 : Bool), v56 = .bool x56_10 ∧ Aside0 (parapetref9_Number.j1 kq t154 x5_1 x6_1 t158 x56_10 = some (r1, r2)) ∧ Aside0 (kq ≤ k1) ∧ Aside0 (Kd.R Kd.string 9 wc w.heap.size (fun _ => True) (.slice (some ad157) t154.length co7) t154) ∧ Aside0 (Below w.heap.size w wc))
            case first =>
              have H := HC11.out
              clear HC11
              by_cases c12 : t159 = true
              · subst c12
                have H1 : (if (wrap64 (x6_1 + 1)) < (t154.length : Int) then (if t158 > 255 then (parapetref9_Number.j1 k1 t154 x5_1 x6_1 t158 true) else (if (wrap64 (x6_1 + 1)) = (t154.length : Int) then (if 0 ≤ (wrap64 (8 * (wrap64 (5 - (t154.length : Int))))) then (parapetref9_Number.j1 k1 t154 x5_1 x6_1 t158 (decide (t158 ≥ (shl .u64 1 (wrap64 (8 * (wrap64 (5 - (t154.length : Int))))))))) else (none)) else (parapetref9_Number.j1 k1 t154 x5_1 x6_1 t158 false))) else (if (wrap64 (x6_1 + 1)) = (t154.length : Int) then (if 0 ≤ (wrap64 (8 * (wrap64 (5 - (t154.length : Int))))) then (parapetref9_Number.j1 k1 t154 x5_1 x6_1 t158 (decide (t158 ≥ (shl .u64 1 (wrap64 (8 * (wrap64 (5 - (t154.length : Int))))))))) else (none)) else (parapetref9_Number.j1 k1 t154 x5_1 x6_1 t158 false))) = some (r1, r2) := by rw [if_pos rfl] at H; exact H
                clear H
                have H := H1
                clear H1
                by_cases c13 : (wrap64 (x6_1 + 1)) < (t154.length : Int)
                · rw [if_pos c13] at H
                  have c13b0 : decide ((wrap64 (x6_1 + 1)) < (t154.length : Int)) = true := decide_eq_true c13
                  clear c13
                  (first | rw [c13b0] | (simp only [i64_w, i32_w]; rw [c13b0]) | skip)
                  by_cases c14 : t158 > 255
                  · rw [if_pos c14] at H
                    have c14b0 : decide (255 < t158) = true := decide_eq_true c14
                    clear c14
                    have H' := Aside0.mk H
                    clear H
                    go_wp2
                    go_meet
                    case rel => exact ⟨_, (true), (by first | rfl | (simp; done) | (simp [*]; done)), H', ⟨by have := HK1.out; first | omega | exact Nat.le_refl _⟩, ⟨by (with_reducible repeat (first | apply Kd.R_alloc | apply Kd.R_drewN | apply Kd.R_drew)); exact HO_4.out⟩, ⟨by repeat (first | (with_reducible first | exact HB.out | apply below_alloc | apply pw_below_drewN | apply below_drew1) | exact HB.out)⟩⟩
                  · rw [if_neg c14] at H
                    have c14b0 : decide (255 < t158) = false := decide_eq_false c14
                    clear c14
                    by_cases c15 : (wrap64 (x6_1 + 1)) = (t154.length : Int)
                    · rw [if_pos c15] at H
                      have c15b0 : ((wrap64 (x6_1 + 1)) == (t154.length : Int)) = true := beq_iff_eq.mpr c15
                      have c15b1 : ((wrap64 (x6_1 + 1)) != (t154.length : Int)) = false := bne_eq_false_iff_eq.mpr c15
                      clear c15
                      obtain ⟨ji16, hji16⟩ : ∃ j_ : Int, (wrap64 (8 * (wrap64 (5 - (t154.length : Int))))) = j_ := ⟨_, rfl⟩
                      replace H : (if 0 ≤ (ji16) then (parapetref9_Number.j1 k1 t154 x5_1 x6_1 t158 (decide (t158 ≥ (shl .u64 1 (ji16))))) else (none)) = some (r1, r2) := by first | (rw [hji16] at H; exact H) | (simp only [hji16] at H ⊢; exact H)
                      have hji16w : (IntKind.i64.wrap (8 * (wrap64 (5 - (t154.length : Int))))) = ji16 := (i64_w _).trans hji16
                      by_cases c17 : 0 ≤ (ji16)
                      · rw [if_pos c17] at H
                        have c17b0 := eq_true c17
                        have c17b1 : decide (0 ≤ (ji16)) = true := decide_eq_true c17
                        clear c17
                        obtain ⟨ji18, hji18⟩ : ∃ j_ : Int, (shl .u64 1 (ji16)) = j_ := ⟨_, rfl⟩
                        replace H : (parapetref9_Number.j1 k1 t154 x5_1 x6_1 t158 (decide (t158 ≥ (ji18)))) = some (r1, r2) := by first | (rw [hji18] at H; exact H) | (simp only [hji18] at H ⊢; exact H)
                        have hji18_ : (IntKind.u64.wrap (1 * 2 ^ min (ji16).toNat 64)) = ji18 := hji18
                        have hji18z : (ji16) ≤ 64 → (IntKind.u64.wrap (1 * 2 ^ (ji16).toNat)) = ji18 := shl_small hji18
                        have hji18u : (IntKind.u64.wrap (2 ^ min (ji16).toNat 64)) = ji18 := by have h_ := hji18_; rw [Int.one_mul] at h_; exact h_
                        have hji18v : (ji16) ≤ 64 → (IntKind.u64.wrap (2 ^ (ji16).toNat)) = ji18 := fun hle_ => by have h_ := hji18z hle_; rw [Int.one_mul] at h_; exact h_
                        have H' := Aside0.mk H
                        clear H
                        go_wp2
                        go_meet
                        case rel => exact ⟨_, (decide (t158 ≥ (ji18))), (by first | rfl | (simp; done) | (simp only [← hji18] <;> (first | rfl | simp)) | (simp [*]; done)), H', ⟨by have := HK1.out; first | omega | exact Nat.le_refl _⟩, ⟨by (with_reducible repeat (first | apply Kd.R_alloc | apply Kd.R_drewN | apply Kd.R_drew)); exact HO_4.out⟩, ⟨by repeat (first | (with_reducible first | exact HB.out | apply below_alloc | apply pw_below_drewN | apply below_drew1) | exact HB.out)⟩⟩
                      · rw [if_neg c17] at H
                        exact absurd H (by simp)
                    · rw [if_neg c15] at H
                      have c15b0 : ((wrap64 (x6_1 + 1)) == (t154.length : Int)) = false := beq_eq_false_iff_ne.mpr c15
                      have c15b1 : ((wrap64 (x6_1 + 1)) != (t154.length : Int)) = true := bne_iff_ne.mpr c15
                      have H' := Aside0.mk H
                      clear H
                      go_wp2
                      go_meet
                      case rel => exact ⟨_, (false), (by first | rfl | (simp; done) | (simp [*]; done)), H', ⟨by have := HK1.out; first | omega | exact Nat.le_refl _⟩, ⟨by (with_reducible repeat (first | apply Kd.R_alloc | apply Kd.R_drewN | apply Kd.R_drew)); exact HO_4.out⟩, ⟨by repeat (first | (with_reducible first | exact HB.out | apply below_alloc | apply pw_below_drewN | apply below_drew1) | exact HB.out)⟩⟩
                · rw [if_neg c13] at H
                  have c13b0 : decide ((wrap64 (x6_1 + 1)) < (t154.length : Int)) = false := decide_eq_false c13
                  clear c13
                  (first | rw [c13b0] | (simp only [i64_w, i32_w]; rw [c13b0]) | skip)
                  by_cases c19 : (wrap64 (x6_1 + 1)) = (t154.length : Int)
                  · rw [if_pos c19] at H
                    have c19b0 : ((wrap64 (x6_1 + 1)) == (t154.length : Int)) = true := beq_iff_eq.mpr c19
                    have c19b1 : ((wrap64 (x6_1 + 1)) != (t154.length : Int)) = false := bne_eq_false_iff_eq.mpr c19
                    clear c19
                    obtain ⟨ji20, hji20⟩ : ∃ j_ : Int, (wrap64 (8 * (wrap64 (5 - (t154.length : Int))))) = j_ := ⟨_, rfl⟩
                    replace H : (if 0 ≤ (ji20) then (parapetref9_Number.j1 k1 t154 x5_1 x6_1 t158 (decide (t158 ≥ (shl .u64 1 (ji20))))) else (none)) = some (r1, r2) := by first | (rw [hji20] at H; exact H) | (simp only [hji20] at H ⊢; exact H)
                    have hji20w : (IntKind.i64.wrap (8 * (wrap64 (5 - (t154.length : Int))))) = ji20 := (i64_w _).trans hji20
                    by_cases c21 : 0 ≤ (ji20)
                    · rw [if_pos c21] at H
                      have c21b0 := eq_true c21
                      have c21b1 : decide (0 ≤ (ji20)) = true := decide_eq_true c21
                      clear c21
                      obtain ⟨ji22, hji22⟩ : ∃ j_ : Int, (shl .u64 1 (ji20)) = j_ := ⟨_, rfl⟩
                      replace H : (parapetref9_Number.j1 k1 t154 x5_1 x6_1 t158 (decide (t158 ≥ (ji22)))) = some (r1, r2) := by first | (rw [hji22] at H; exact H) | (simp only [hji22] at H ⊢; exact H)
                      have hji22_ : (IntKind.u64.wrap (1 * 2 ^ min (ji20).toNat 64)) = ji22 := hji22
                      have hji22z : (ji20) ≤ 64 → (IntKind.u64.wrap (1 * 2 ^ (ji20).toNat)) = ji22 := shl_small hji22
                      have hji22u : (IntKind.u64.wrap (2 ^ min (ji20).toNat 64)) = ji22 := by have h_ := hji22_; rw [Int.one_mul] at h_; exact h_
                      have hji22v : (ji20) ≤ 64 → (IntKind.u64.wrap (2 ^ (ji20).toNat)) = ji22 := fun hle_ => by have h_ := hji22z hle_; rw [Int.one_mul] at h_; exact h_
                      have H' := Aside0.mk H
                      clear H
                      go_wp2
                      go_meet
                      case rel => exact ⟨_, (decide (t158 ≥ (ji22))), (by first | rfl | (simp; done) | (simp only [← hji22] <;> (first | rfl | simp)) | (simp [*]; done)), H', ⟨by have := HK1.out; first | omega | exact Nat.le_refl _⟩, ⟨by (with_reducible repeat (first | apply Kd.R_alloc | apply Kd.R_drewN | apply Kd.R_drew)); exact HO_4.out⟩, ⟨by repeat (first | (with_reducible first | exact HB.out | apply below_alloc | apply pw_below_drewN | apply below_drew1) | exact HB.out)⟩⟩
                    · rw [if_neg c21] at H
                      exact absurd H (by simp)
                  · rw [if_neg c19] at H
                    have c19b0 : ((wrap64 (x6_1 + 1)) == (t154.length : Int)) = false := beq_eq_false_iff_ne.mpr c19
                    have c19b1 : ((wrap64 (x6_1 + 1)) != (t154.length : Int)) = true := bne_iff_ne.mpr c19
                    have H' := Aside0.mk H
                    clear H
                    go_wp2
                    go_meet
                    case rel => exact ⟨_, (false), (by first | rfl | (simp; done) | (simp [*]; done)), H', ⟨by have := HK1.out; first | omega | exact Nat.le_refl _⟩, ⟨by (with_reducible repeat (first | apply Kd.R_alloc | apply Kd.R_drewN | apply Kd.R_drew)); exact HO_4.out⟩, ⟨by repeat (first | (with_reducible first | exact HB.out | apply below_alloc | apply pw_below_drewN | apply below_drew1) | exact HB.out)⟩⟩
              · replace c12 := Bool.eq_false_iff.mpr c12
                subst c12
                have H1 : (parapetref9_Number.j1 k1 t154 x5_1 x6_1 t158 true) = some (r1, r2) := by rw [if_neg (show ¬ (false = true) by decide)] at H; exact H
                clear H
                have H := H1
                clear H1
                have H' := Aside0.mk H
                clear H
                go_wp2
                go_meet
                case rel => exact ⟨_, (true), (by first | rfl | (simp; done) | (simp [*]; done)), H', ⟨by have := HK1.out; first | omega | exact Nat.le_refl _⟩, ⟨by (with_reducible repeat (first | apply Kd.R_alloc | apply Kd.R_drewN | apply Kd.R_drew)); exact HO_4.out⟩, ⟨by repeat (first | (with_reducible first | exact HB.out | apply below_alloc | apply pw_below_drewN | apply below_drew1) | exact HB.out)⟩⟩
            case rest =>
              clear HC11
              try clear c1
              try clear p1
              try clear q1
              try clear hx1
              try clear c2
              try clear p2
              try clear c3
              try clear c3b0
              try clear c3b1
              try clear p6
              try clear c8
              try clear c8b0
              try clear c9
              try clear c9b0
              try clear c10
              try clear c12
              try clear c13
              try clear c13b0
              try clear c14
              try clear c14b0
              try clear c15
              try clear c15b0
              try clear c15b1
              try clear p15
              try clear q15
              try clear hx15
              try clear c17
              try clear c17b0
              try clear c17b1
              try clear c19
              try clear c19b0
              try clear c19b1
              try clear c21
              try clear c21b0
              try clear c21b1
              try clear hx157_0
              try clear p157
              try clear p2
              try clear q157
              obtain ⟨kq, x56_10, rfl, HA, HJ10, HO_4, HB⟩ := hcut
              cases kq with
              | zero => exact absurd HA.out (by simp [parapetref9_Number.j1])
              | succ kj10 =>
                have H := HA.out
                clear HA
                simp only [parapetref9_Number.j1] at H
                by_cases c23 : x56_10 = true
                · subst c23
                  have H1 : (some (0, false)) = some (r1, r2) := by rw [if_pos rfl] at H; exact H
                  clear H
                  have H := H1
                  clear H1
                  simp only [Option.some.injEq, Prod.mk.injEq] at H
                  obtain ⟨rfl, rfl⟩ := H
                  go_wp2
                  go_ret2
                  exact ⟨by first | rfl | (simp [errW_none, errW_some] <;> rfl) | (simp [*, errW_none, errW_some] <;> rfl), by repeat (first | (with_reducible first | exact HB.out | apply below_alloc | apply pw_below_drewN | apply below_drew1) | exact HB.out)⟩
                · replace c23 := Bool.eq_false_iff.mpr c23
                  subst c23
                  have H1 : (if (wrap64 (x6_1 + 1)) < (t154.length : Int) then (if 0 ≤ (wrap64 (8 * (wrap64 (3 - x6_1)))) then (parapetref9_Number.l0 kj10 t154 (IntKind.u64.wrap (x5_1 + (shl .u64 t158 (wrap64 (8 * (wrap64 (3 - x6_1))))))) (wrap64 (x6_1 + 1))) else (none)) else (parapetref9_Number.l0 kj10 t154 (IntKind.u64.wrap (x5_1 + t158)) (wrap64 (x6_1 + 1)))) = some (r1, r2) := by rw [if_neg (show ¬ (false = true) by decide)] at H; exact H
                  clear H
                  have H := H1
                  clear H1
                  by_cases c24 : (wrap64 (x6_1 + 1)) < (t154.length : Int)
                  · rw [if_pos c24] at H
                    have c24b0 : decide ((wrap64 (x6_1 + 1)) < (t154.length : Int)) = true := decide_eq_true c24
                    clear c24
                    obtain ⟨ji25, hji25⟩ : ∃ j_ : Int, (wrap64 (8 * (wrap64 (3 - x6_1)))) = j_ := ⟨_, rfl⟩
                    replace H : (if 0 ≤ (ji25) then (parapetref9_Number.l0 kj10 t154 (IntKind.u64.wrap (x5_1 + (shl .u64 t158 (ji25)))) (wrap64 (x6_1 + 1))) else (none)) = some (r1, r2) := by first | (rw [hji25] at H; exact H) | (simp only [hji25] at H ⊢; exact H)
                    have hji25w : (IntKind.i64.wrap (8 * (wrap64 (3 - x6_1)))) = ji25 := (i64_w _).trans hji25
                    by_cases c26 : 0 ≤ (ji25)
                    · rw [if_pos c26] at H
                      have c26b0 := eq_true c26
                      have c26b1 : decide (0 ≤ (ji25)) = true := decide_eq_true c26
                      clear c26
                      obtain ⟨ji27, hji27⟩ : ∃ j_ : Int, (shl .u64 t158 (ji25)) = j_ := ⟨_, rfl⟩
                      replace H : (parapetref9_Number.l0 kj10 t154 (IntKind.u64.wrap (x5_1 + (ji27))) (wrap64 (x6_1 + 1))) = some (r1, r2) := by first | (rw [hji27] at H; exact H) | (simp only [hji27] at H ⊢; exact H)
                      have hji27_ : (IntKind.u64.wrap (t158 * 2 ^ min (ji25).toNat 64)) = ji27 := hji27
                      have hji27z : (ji25) ≤ 64 → (IntKind.u64.wrap (t158 * 2 ^ (ji25).toNat)) = ji27 := shl_small hji27
                      have H' := Aside0.mk H
                      clear H
                      go_wp2
                      go_roundg kj10
                      case measure => have := HK1.out; have := HJ10.out; omega
                      case rel => exact ⟨(IntKind.u64.wrap (x5_1 + (ji27))), (wrap64 (x6_1 + 1)), (by first | rfl | (simp; done) | (simp only [← hji27] <;> (first | rfl | simp)) | (simp [*]; done)), (by first | rfl | (simp; done) | (simp [*]; done)), H', ⟨by have := HK1.out; have := HJ10.out; omega⟩, ⟨by (with_reducible repeat (first | apply Kd.R_alloc | apply Kd.R_drewN | apply Kd.R_drew)); exact HO_4.out⟩, ⟨by repeat (first | (with_reducible first | exact HB.out | apply below_alloc | apply pw_below_drewN | apply below_drew1) | exact HB.out)⟩⟩
                    · rw [if_neg c26] at H
                      exact absurd H (by simp)
                  · rw [if_neg c24] at H
                    have c24b0 : decide ((wrap64 (x6_1 + 1)) < (t154.length : Int)) = false := decide_eq_false c24
                    clear c24
                    have H' := Aside0.mk H
                    clear H
                    go_wp2
                    go_roundg kj10
                    case measure => have := HK1.out; have := HJ10.out; omega
                    case rel => exact ⟨(IntKind.u64.wrap (x5_1 + t158)), (wrap64 (x6_1 + 1)), (by first | rfl | (simp; done) | (simp [*]; done)), (by first | rfl | (simp; done) | (simp [*]; done)), H', ⟨by have := HK1.out; have := HJ10.out; omega⟩, ⟨by (with_reducible repeat (first | apply Kd.R_alloc | apply Kd.R_drewN | apply Kd.R_drew)); exact HO_4.out⟩, ⟨by repeat (first | (with_reducible first | exact HB.out | apply below_alloc | apply pw_below_drewN | apply below_drew1) | exact HB.out)⟩⟩
          · rw [if_neg c9] at H
            exact absurd H (by simp)
        · rw [if_neg c8] at H
          have c8b0 : decide (x6_1 < (t154.length : Int)) = false := decide_eq_false c8
          clear c8
          simp only [Option.some.injEq, Prod.mk.injEq] at H
          obtain ⟨rfl, rfl⟩ := H
          go_wp2
          go_ret2
          exact ⟨by first | rfl | (simp [errW_none, errW_some] <;> rfl) | (simp [*, errW_none, errW_some] <;> rfl), by repeat (first | (with_reducible first | exact HB.out | apply below_alloc | apply pw_below_drewN | apply below_drew1) | exact HB.out)⟩
end Go.Proofs.YtcmcopieagpppaaGreatDoor.P
namespace Go.Proofs.YtcmcopieagpppaaGreatDoor.P
open Go.RowKit Go.Proofs.YtcmcopieagpppaaGreatDoorW.PrintWords Go.Proofs.YtcmcopieagpppaaGreatDoorW.PrintLast Go.Proofs.YtcmcopieagpppaaGreatDoorW.PrintMore
attribute [local go_sem] max2_int min2_int max_two min_two max_three min_three max_four min_four
set_option linter.unusedVariables false
set_option linter.unusedSimpArgs false
mutual
def parapetref9_Decode.l0 : Nat → ByteArray → List Int → Int → Option (ByteArray)
  | 0, _, _, _ => none
  | k + 1, x0, x3, x4 => if x4 < (x0.size : Int) then (if 0 ≤ x4 then (if (bt x0 x4) = 37 then (if (wrap64 (x4 + 2)) < (x0.size : Int) then (if 0 ≤ (wrap64 (x4 + 1)) then (if (wrap64 (x4 + 1)) < (x0.size : Int) then ((parapetref9_hex.f k (bt x0 (wrap64 (x4 + 1)))).bind fun t160 => (if t160 ≥ 0 then (if 0 ≤ (wrap64 (x4 + 2)) then ((parapetref9_hex.f k (bt x0 (wrap64 (x4 + 2)))).bind fun t161 => (parapetref9_Decode.j1 k x0 x3 x4 (decide (t161 ≥ 0)))) else (none)) else (parapetref9_Decode.j1 k x0 x3 x4 false))) else (none)) else (none)) else (parapetref9_Decode.j1 k x0 x3 x4 false)) else (parapetref9_Decode.j1 k x0 x3 x4 false)) else (none)) else (some (strOfNums x3))
def parapetref9_Decode.j1 : Nat → ByteArray → List Int → Int → Bool → Option (ByteArray)
  | 0, _, _, _, _ => none
  | k + 1, x0, x3, x4, x37 => if x37 = true then (if 0 ≤ (wrap64 (x4 + 1)) then (if (wrap64 (x4 + 1)) < (x0.size : Int) then ((parapetref9_hex.f k (bt x0 (wrap64 (x4 + 1)))).bind fun t162 => (if 0 ≤ (wrap64 (x4 + 2)) then (if (wrap64 (x4 + 2)) < (x0.size : Int) then ((parapetref9_hex.f k (bt x0 (wrap64 (x4 + 2)))).bind fun t163 => (if x3.length < 140737488355328 then (parapetref9_Decode.l0 k x0 (x3 ++ [(wrap64 ((wrap64 (16 * t162)) + t163)) % 256]) (wrap64 ((wrap64 (x4 + 2)) + 1))) else (none))) else (none)) else (none))) else (none)) else (none)) else (if 0 ≤ x4 then (if x4 < (x0.size : Int) then (if x3.length < 140737488355328 then (parapetref9_Decode.l0 k x0 (x3 ++ [bt x0 x4]) (wrap64 (x4 + 1))) else (none)) else (none)) else (none))
end
def parapetref9_Decode.f (k : Nat) (a0 : ByteArray) : Option (ByteArray) := parapetref9_Decode.l0 k a0 ([] : List Int) 0
def parapetref9_Decode.T6 : Bool × List (List Nat × List Nat) := (true, [([], []), ([], []), ([], []), ([2], [2]), ([1, 3], [1, 3]), ([4], [4]), ([5], [5]), ([], []), ([], []), ([8], [8]), ([7, 9], [7, 9]), ([10, 5], [10]), ([6, 11], [6, 11]), ([12], [12]), ([13], [13]), ([0, 14, 11], [0, 14]), ([15, 15, 0, 1, 2, 3, 4, 5, 6, 7, 8, 9, 10, 11, 12, 13, 14, 15], [0, 15])])
def parapetref9_Decode.B6 : List Nat := [0, 0, 0, 4, 14, 30, 62, 0, 0, 256, 896, 1982, 4094, 8190, 16382, 32767, 65535]
theorem parapetref9_Decode.tab6 : rtab .any (opsOf Tryz.f137 6) = parapetref9_Decode.T6 := by kernel_rfl
theorem parapetref9_Decode.bits6 : waitsOk parapetref9_Decode.T6.2 parapetref9_Decode.B6 = true := by kernel_rfl
set_option maxHeartbeats 8000000 in
set_option maxRecDepth 100000 in
theorem parapetref9_Decode.calls (k : Nat) (a0 : ByteArray) (r : ByteArray) (w : World) (h : parapetref9_Decode.f k a0 = some r) :
    Calls Tryz.prog 137 #[.string a0] w fun e w' => e = .returned (.string r) ∧ Below w.heap.size w w' := by
  have HB := Aside0.mk (Below.refl w.heap.size w)
  have H : (parapetref9_Decode.l0 k a0 ([] : List Int) 0) = some r := h
  clear h
  have H' := Aside0.mk H
  clear H
  go_enter Tryz.func137, Tryz.ntmps137
  go_wp2
  go_loopg [3, 4] k (fun kq v3 v4 w' => ∃ (x3_1 : List Int) (x4_1 : Int), v4 = .int .i64 x4_1 ∧ Aside0 (parapetref9_Decode.l0 kq a0 x3_1 x4_1 = some r) ∧ Aside0 (kq ≤ k) ∧ Aside0 (Kd.R (Kd.int .u8) 5 w' w.heap.size (fun _ => True) v3 x3_1) ∧ Aside0 (Below w.heap.size w w'))
  case atStart => exact ⟨(([] : List Int)), (0), (by first | rfl | (simp; done) | (simp [*]; done)), H', ⟨Nat.le_refl _⟩, ⟨by first | exact Kd.R_nil _ _ _ _ _ | exact Kd.N_nil _ _ _ _ _ | exact Kd.V_nil _ _ _ _ _ | exact Kd.Q_nil _ _ _ _ _ | exact Kd.S_nil _ _ _ _ _⟩, ⟨by repeat (first | (with_reducible first | exact HB.out | apply below_alloc | apply pw_below_drewN | apply below_drew1) | exact HB.out)⟩⟩
  case round =>
    clear H'
    try clear c1
    obtain ⟨x3_1, x4_1, rfl, HA, HK1, HO_3, HB⟩ := hrel
    cases gk with
    | zero => exact absurd HA.out (by simp [parapetref9_Decode.l0])
    | succ k1 =>
      have H := HA.out
      clear HA
      simp only [parapetref9_Decode.l0] at H
      by_cases c2 : x4_1 < (a0.size : Int)
      · rw [if_pos c2] at H
        have c2b0 : decide (x4_1 < (a0.size : Int)) = true := decide_eq_true c2
        clear c2
        have HC3 := Aside0.mk H
        clear H
        go_upto_region 5 with (fail)
        go_cut [37] (fun v37 wc => ∃ (kq : Nat) (x37_2 : Bool), v37 = .bool x37_2 ∧ Aside0 (parapetref9_Decode.j1 kq a0 x3_1 x4_1 x37_2 = some r) ∧ Aside0 (kq ≤ k1) ∧ Aside0 (Kd.R (Kd.int .u8) 5 wc w.heap.size (fun _ => True) u3 x3_1) ∧ Aside0 (Below w.heap.size w wc))
        case first =>
          have H := HC3.out
          clear HC3
          by_cases c4 : 0 ≤ x4_1
          · rw [if_pos c4] at H
            have c4b0 : decide (0 ≤ x4_1) = true := decide_eq_true c4
            clear c4
            (first | rw [c4b0] | (simp only [i64_w, i32_w]; rw [c4b0]) | skip)
            by_cases c6 : (bt a0 x4_1) = 37
            · rw [if_pos c6] at H
              have c6b0 : ((bt a0 x4_1) == 37) = true := beq_iff_eq.mpr c6
              have c6b1 : ((bt a0 x4_1) != 37) = false := bne_eq_false_iff_eq.mpr c6
              clear c6
              by_cases c7 : (wrap64 (x4_1 + 2)) < (a0.size : Int)
              · rw [if_pos c7] at H
                have c7b0 : decide ((wrap64 (x4_1 + 2)) < (a0.size : Int)) = true := decide_eq_true c7
                clear c7
                obtain ⟨ji8, hji8⟩ : ∃ j_ : Int, (wrap64 (x4_1 + 1)) = j_ := ⟨_, rfl⟩
                replace H : (if 0 ≤ (ji8) then (if (ji8) < (a0.size : Int) then ((parapetref9_hex.f k1 (bt a0 (ji8))).bind fun t160 => (if t160 ≥ 0 then (if 0 ≤ (wrap64 (x4_1 + 2)) then ((parapetref9_hex.f k1 (bt a0 (wrap64 (x4_1 + 2)))).bind fun t161 => (parapetref9_Decode.j1 k1 a0 x3_1 x4_1 (decide (t161 ≥ 0)))) else (none)) else (parapetref9_Decode.j1 k1 a0 x3_1 x4_1 false))) else (none)) else (none)) = some r := by first | (rw [hji8] at H; exact H) | (simp only [hji8] at H ⊢; exact H)
                have hji8w : (IntKind.i64.wrap (x4_1 + 1)) = ji8 := (i64_w _).trans hji8
                by_cases c9 : 0 ≤ (ji8)
                · rw [if_pos c9] at H
                  have c9b0 : decide (0 ≤ (ji8)) = true := decide_eq_true c9
                  clear c9
                  by_cases c10 : (ji8) < (a0.size : Int)
                  · rw [if_pos c10] at H
                    have c10b0 : decide ((ji8) < (a0.size : Int)) = true := decide_eq_true c10
                    clear c10
                    replace H := Option.bind_eq_some_iff.mp H
                    obtain ⟨t160, A120, H⟩ := H
                    replace H : (if t160 ≥ 0 then (if 0 ≤ (wrap64 (x4_1 + 2)) then ((parapetref9_hex.f k1 (bt a0 (wrap64 (x4_1 + 2)))).bind fun t161 => (parapetref9_Decode.j1 k1 a0 x3_1 x4_1 (decide (t161 ≥ 0)))) else (none)) else (parapetref9_Decode.j1 k1 a0 x3_1 x4_1 false)) = some r := H
                    have A12 := Aside0.mk A120
                    clear A120
                    by_cases c13 : t160 ≥ 0
                    · rw [if_pos c13] at H
                      have c13b0 : decide (0 ≤ t160) = true := decide_eq_true c13
                      clear c13
                      obtain ⟨ji14, hji14⟩ : ∃ j_ : Int, (wrap64 (x4_1 + 2)) = j_ := ⟨_, rfl⟩
                      replace H : (if 0 ≤ (ji14) then ((parapetref9_hex.f k1 (bt a0 (ji14))).bind fun t161 => (parapetref9_Decode.j1 k1 a0 x3_1 x4_1 (decide (t161 ≥ 0)))) else (none)) = some r := by first | (rw [hji14] at H; exact H) | (simp only [hji14] at H ⊢; exact H)
                      (try rw [hji14] at c7b0)
                      (try rw [hji14] at A12)
                      have hji14w : (IntKind.i64.wrap (x4_1 + 2)) = ji14 := (i64_w _).trans hji14
                      by_cases c15 : 0 ≤ (ji14)
                      · rw [if_pos c15] at H
                        have c15b0 : decide (0 ≤ (ji14)) = true := decide_eq_true c15
                        clear c15
                        replace H := Option.bind_eq_some_iff.mp H
                        obtain ⟨t161, A170, H⟩ := H
                        replace H : (parapetref9_Decode.j1 k1 a0 x3_1 x4_1 (decide (t161 ≥ 0))) = some r := H
                        have A17 := Aside0.mk A170
                        clear A170
                        have H' := Aside0.mk H
                        clear H
                        have p5 : 0 ≤ (x4_1 : Int) := of_decide_eq_true (by first | (with_reducible assumption) | assumption)
                        have q5 : x4_1 < (a0.size : Int) := of_decide_eq_true (by first | (with_reducible assumption) | assumption)
                        have hx5 := bt_at a0 x4_1
                        replace p5 := eq_true p5
                        replace q5 := eq_true q5
                        have p11 : 0 ≤ ((ji8) : Int) := of_decide_eq_true (by first | (with_reducible assumption) | assumption)
                        have q11 : (ji8) < (a0.size : Int) := of_decide_eq_true (by first | (with_reducible assumption) | assumption)
                        have hx11 := bt_at a0 (ji8)
                        replace p11 := eq_true p11
                        replace q11 := eq_true q11
                        go_wp2_with (first | (go_at_call 139; (with_reducible refine (parapetref9_hex.calls k1 (bt a0 (ji8)) t160 _ A12.out).mono ?_); rintro e w' ⟨rfl, ⟨nd, rfl⟩⟩; have p16 : 0 ≤ ((ji14) : Int) := of_decide_eq_true (by first | (with_reducible assumption) | assumption); have q16 : (ji14) < (a0.size : Int) := of_decide_eq_true (by first | (with_reducible assumption) | assumption); have hx16 := bt_at a0 (ji14); replace p16 := eq_true p16; replace q16 := eq_true q16) | (go_at_call 139; (with_reducible refine (parapetref9_hex.calls k1 (bt a0 (ji14)) t161 _ A17.out).mono ?_); rintro e w' ⟨rfl, ⟨nd, rfl⟩⟩))
                        go_meet
                        case rel => exact ⟨_, (decide (t161 ≥ 0)), (by first | rfl | (simp; done) | (simp [*]; done)), H', ⟨by have := HK1.out; first | omega | exact Nat.le_refl _⟩, ⟨by (with_reducible repeat (first | apply Kd.R_alloc | apply Kd.R_drewN | apply Kd.R_drew)); exact HO_3.out⟩, ⟨by repeat (first | (with_reducible first | exact HB.out | apply below_alloc | apply pw_below_drewN | apply below_drew1) | exact HB.out)⟩⟩
                      · rw [if_neg c15] at H
                        exact absurd H (by simp)
                    · rw [if_neg c13] at H
                      have c13b0 : decide (0 ≤ t160) = false := decide_eq_false c13
                      clear c13
                      have H' := Aside0.mk H
                      clear H
                      have p5 : 0 ≤ (x4_1 : Int) := of_decide_eq_true (by first | (with_reducible assumption) | assumption)
                      have q5 : x4_1 < (a0.size : Int) := of_decide_eq_true (by first | (with_reducible assumption) | assumption)
                      have hx5 := bt_at a0 x4_1
                      replace p5 := eq_true p5
                      replace q5 := eq_true q5
                      have p11 : 0 ≤ ((ji8) : Int) := of_decide_eq_true (by first | (with_reducible assumption) | assumption)
                      have q11 : (ji8) < (a0.size : Int) := of_decide_eq_true (by first | (with_reducible assumption) | assumption)
                      have hx11 := bt_at a0 (ji8)
                      replace p11 := eq_true p11
                      replace q11 := eq_true q11
                      go_wp2_with (first | (go_at_call 139; (with_reducible refine (parapetref9_hex.calls k1 (bt a0 (ji8)) t160 _ A12.out).mono ?_); rintro e w' ⟨rfl, ⟨nd, rfl⟩⟩))
                      go_meet
                      case rel => exact ⟨_, (false), (by first | rfl | (simp; done) | (simp [*]; done)), H', ⟨by have := HK1.out; first | omega | exact Nat.le_refl _⟩, ⟨by (with_reducible repeat (first | apply Kd.R_alloc | apply Kd.R_drewN | apply Kd.R_drew)); exact HO_3.out⟩, ⟨by repeat (first | (with_reducible first | exact HB.out | apply below_alloc | apply pw_below_drewN | apply below_drew1) | exact HB.out)⟩⟩
                  · rw [if_neg c10] at H
                    exact absurd H (by simp)
                · rw [if_neg c9] at H
                  exact absurd H (by simp)
              · rw [if_neg c7] at H
                have c7b0 : decide ((wrap64 (x4_1 + 2)) < (a0.size : Int)) = false := decide_eq_false c7
                clear c7
                have H' := Aside0.mk H
                clear H
                have p5 : 0 ≤ (x4_1 : Int) := of_decide_eq_true (by first | (with_reducible assumption) | assumption)
                have q5 : x4_1 < (a0.size : Int) := of_decide_eq_true (by first | (with_reducible assumption) | assumption)
                have hx5 := bt_at a0 x4_1
                replace p5 := eq_true p5
                replace q5 := eq_true q5
                go_wp2
                go_meet
                case rel => exact ⟨_, (false), (by first | rfl | (simp; done) | (simp [*]; done)), H', ⟨by have := HK1.out; first | omega | exact Nat.le_refl _⟩, ⟨by (with_reducible repeat (first | apply Kd.R_alloc | apply Kd.R_drewN | apply Kd.R_drew)); exact HO_3.out⟩, ⟨by repeat (first | (with_reducible first | exact HB.out | apply below_alloc | apply pw_below_drewN | apply below_drew1) | exact HB.out)⟩⟩
            · rw [if_neg c6] at H
              have c6b0 : ((bt a0 x4_1) == 37) = false := beq_eq_false_iff_ne.mpr c6
              have c6b1 : ((bt a0 x4_1) != 37) = true := bne_iff_ne.mpr c6
              have H' := Aside0.mk H
              clear H
              have p5 : 0 ≤ (x4_1 : Int) := of_decide_eq_true (by first | (with_reducible assumption) | assumption)
              have q5 : x4_1 < (a0.size : Int) := of_decide_eq_true (by first | (with_reducible assumption) | assumption)
              have hx5 := bt_at a0 x4_1
              replace p5 := eq_true p5
              replace q5 := eq_true q5
              go_wp2
              go_meet
              case rel => exact ⟨_, (false), (by first | rfl | (simp; done) | (simp [*]; done)), H', ⟨by have := HK1.out; first | omega | exact Nat.le_refl _⟩, ⟨by (with_reducible repeat (first | apply Kd.R_alloc | apply Kd.R_drewN | apply Kd.R_drew)); exact HO_3.out⟩, ⟨by repeat (first | (with_reducible first | exact HB.out | apply below_alloc | apply pw_below_drewN | apply below_drew1) | exact HB.out)⟩⟩
          · rw [if_neg c4] at H
            exact absurd H (by simp)
        case rest =>
          clear HC3
          try clear c1
          try clear p1
          try clear q1
          try clear hx1
          try clear c2
          try clear c2b0
          try clear p2
          try clear c4
          try clear c4b0
          try clear p5
          try clear q5
          try clear hx5
          try clear c6
          try clear c6b0
          try clear c6b1
          try clear p6
          try clear c7
          try clear c7b0
          try clear c9
          try clear c9b0
          try clear c10
          try clear c10b0
          try clear p11
          try clear q11
          try clear hx11
          try clear c13
          try clear c13b0
          try clear c15
          try clear c15b0
          try clear p16
          try clear q16
          try clear hx16
          try clear p11
          try clear p16
          try clear p5
          try clear q11
          try clear q16
          try clear q5
          obtain ⟨kq, x37_2, rfl, HA, HJ2, HO_3, HB⟩ := hcut
          cases kq with
          | zero => exact absurd HA.out (by simp [parapetref9_Decode.j1])
          | succ kj2 =>
            have H := HA.out
            clear HA
            simp only [parapetref9_Decode.j1] at H
            by_cases c18 : x37_2 = true
            · subst c18
              have H1 : (if 0 ≤ (wrap64 (x4_1 + 1)) then (if (wrap64 (x4_1 + 1)) < (a0.size : Int) then ((parapetref9_hex.f kj2 (bt a0 (wrap64 (x4_1 + 1)))).bind fun t162 => (if 0 ≤ (wrap64 (x4_1 + 2)) then (if (wrap64 (x4_1 + 2)) < (a0.size : Int) then ((parapetref9_hex.f kj2 (bt a0 (wrap64 (x4_1 + 2)))).bind fun t163 => (if x3_1.length < 140737488355328 then (parapetref9_Decode.l0 kj2 a0 (x3_1 ++ [(wrap64 ((wrap64 (16 * t162)) + t163)) % 256]) (wrap64 ((wrap64 (x4_1 + 2)) + 1))) else (none))) else (none)) else (none))) else (none)) else (none)) = some r := by rw [if_pos rfl] at H; exact H
              clear H
              have H := H1
              clear H1
              obtain ⟨ji19, hji19⟩ : ∃ j_ : Int, (wrap64 (x4_1 + 1)) = j_ := ⟨_, rfl⟩
              replace H : (if 0 ≤ (ji19) then (if (ji19) < (a0.size : Int) then ((parapetref9_hex.f kj2 (bt a0 (ji19))).bind fun t162 => (if 0 ≤ (wrap64 (x4_1 + 2)) then (if (wrap64 (x4_1 + 2)) < (a0.size : Int) then ((parapetref9_hex.f kj2 (bt a0 (wrap64 (x4_1 + 2)))).bind fun t163 => (if x3_1.length < 140737488355328 then (parapetref9_Decode.l0 kj2 a0 (x3_1 ++ [(wrap64 ((wrap64 (16 * t162)) + t163)) % 256]) (wrap64 ((wrap64 (x4_1 + 2)) + 1))) else (none))) else (none)) else (none))) else (none)) else (none)) = some r := by first | (rw [hji19] at H; exact H) | (simp only [hji19] at H ⊢; exact H)
              have hji19w : (IntKind.i64.wrap (x4_1 + 1)) = ji19 := (i64_w _).trans hji19
              by_cases c20 : 0 ≤ (ji19)
              · rw [if_pos c20] at H
                have c20b0 : decide (0 ≤ (ji19)) = true := decide_eq_true c20
                clear c20
                by_cases c21 : (ji19) < (a0.size : Int)
                · rw [if_pos c21] at H
                  have c21b0 : decide ((ji19) < (a0.size : Int)) = true := decide_eq_true c21
                  clear c21
                  replace H := Option.bind_eq_some_iff.mp H
                  obtain ⟨t162, A230, H⟩ := H
                  replace H : (if 0 ≤ (wrap64 (x4_1 + 2)) then (if (wrap64 (x4_1 + 2)) < (a0.size : Int) then ((parapetref9_hex.f kj2 (bt a0 (wrap64 (x4_1 + 2)))).bind fun t163 => (if x3_1.length < 140737488355328 then (parapetref9_Decode.l0 kj2 a0 (x3_1 ++ [(wrap64 ((wrap64 (16 * t162)) + t163)) % 256]) (wrap64 ((wrap64 (x4_1 + 2)) + 1))) else (none))) else (none)) else (none)) = some r := H
                  have A23 := Aside0.mk A230
                  clear A230
                  obtain ⟨ji24, hji24⟩ : ∃ j_ : Int, (wrap64 (x4_1 + 2)) = j_ := ⟨_, rfl⟩
                  replace H : (if 0 ≤ (ji24) then (if (ji24) < (a0.size : Int) then ((parapetref9_hex.f kj2 (bt a0 (ji24))).bind fun t163 => (if x3_1.length < 140737488355328 then (parapetref9_Decode.l0 kj2 a0 (x3_1 ++ [(wrap64 ((wrap64 (16 * t162)) + t163)) % 256]) (wrap64 ((ji24) + 1))) else (none))) else (none)) else (none)) = some r := by first | (rw [hji24] at H; exact H) | (simp only [hji24] at H ⊢; exact H)
                  (try rw [hji24] at A23)
                  have hji24w : (IntKind.i64.wrap (x4_1 + 2)) = ji24 := (i64_w _).trans hji24
                  by_cases c25 : 0 ≤ (ji24)
                  · rw [if_pos c25] at H
                    have c25b0 : decide (0 ≤ (ji24)) = true := decide_eq_true c25
                    clear c25
                    by_cases c26 : (ji24) < (a0.size : Int)
                    · rw [if_pos c26] at H
                      have c26b0 : decide ((ji24) < (a0.size : Int)) = true := decide_eq_true c26
                      clear c26
                      replace H := Option.bind_eq_some_iff.mp H
                      obtain ⟨t163, A280, H⟩ := H
                      replace H : (if x3_1.length < 140737488355328 then (parapetref9_Decode.l0 kj2 a0 (x3_1 ++ [(wrap64 ((wrap64 (16 * t162)) + t163)) % 256]) (wrap64 ((ji24) + 1))) else (none)) = some r := H
                      have A28 := Aside0.mk A280
                      clear A280
                      by_cases c29 : x3_1.length < 140737488355328
                      · rw [if_pos c29] at H
                        have LMc29 := Aside0.mk c29
                        clear c29
                        obtain ⟨y164, hy164⟩ : ∃ y_ : List Int, y_ = (x3_1 ++ [(wrap64 ((wrap64 (16 * t162)) + t163)) % 256]) := ⟨_, rfl⟩
                        replace H : (parapetref9_Decode.l0 kj2 a0 y164 (wrap64 ((ji24) + 1))) = some r := by first | (rw [hy164]; with_reducible exact H) | (have H2_ := (Option.bind_some _ _).symm.trans H; rw [hy164]; with_reducible exact H2_) | (have H2_ := (Option.bind_some _ _).symm.trans H; with_reducible exact H2_) | with_reducible exact H | (rw [hy164]; exact H) | exact H
                        have Ny164 := Aside0.mk hy164
                        clear hy164
                        have H' := Aside0.mk H
                        clear H
                        try go_wp2
                        have n0_ := Aside0.mk (Kd.R_drew HO_3.out)
                        have n1_ := Aside0.mk (below_drew1 HB.out)
                        clear HO_3
                        clear HB
                        have HO_3 := n0_
                        have HB := n1_
                        clear n0_ n1_
                        have p22 : 0 ≤ ((ji19) : Int) := of_decide_eq_true (by first | (with_reducible assumption) | assumption)
                        have q22 : (ji19) < (a0.size : Int) := of_decide_eq_true (by first | (with_reducible assumption) | assumption)
                        have hx22 := bt_at a0 (ji19)
                        replace p22 := eq_true p22
                        replace q22 := eq_true q22
                        have p27 : 0 ≤ ((ji24) : Int) := of_decide_eq_true (by first | (with_reducible assumption) | assumption)
                        have q27 : (ji24) < (a0.size : Int) := of_decide_eq_true (by first | (with_reducible assumption) | assumption)
                        have hx27 := bt_at a0 (ji24)
                        replace p27 := eq_true p27
                        replace q27 := eq_true q27
                        refine start_ (n := 17) (S := fun w' => True) (ds := []) #[false, false, false, false, false, false, false, false, false, false, false, false, false, false, false, false, false] (by kernel_rfl) rfl rfl trivial (fun hHeld => ?_); refine with_tabW parapetref9_Decode.tab6 parapetref9_Decode.bits6 (fun HT_ HW_ => ?_)
                        generalize wc.drew = w30 at HO_3 HB hHeld ⊢
                        refine pure_ (i := 0) (N := some 38) (v := ?_) (a' := ?_) #[true, false, false, false, false, false, false, false, false, false, false, false, false, false, false, false, false] rfl rfl (any_of HT_.out (by kernel_rfl)) (fun _ _ _ h => h) (Or.inl ⟨by rfl, ?_⟩) ?_ ?_
                        rotate_left
                        · intro w'
                          go_simp
                          with_reducible rfl
                        rotate_left
                        · simp only [Act.put, List.setIfInBounds_toArray, List.set_cons_zero, List.set_cons_succ, i64_w, i32_w]
                          rfl
                        refine pure_ (i := 1) (N := some 39) (v := ?_) (a' := ?_) #[true, true, false, false, false, false, false, false, false, false, false, false, false, false, false, false, false] rfl rfl (any_of HT_.out (by kernel_rfl)) (fun _ _ _ h => h) (Or.inl ⟨by rfl, ?_⟩) ?_ ?_
                        rotate_left
                        · intro w'
                          go_simp
                          with_reducible rfl
                        rotate_left
                        · simp only [Act.put, List.setIfInBounds_toArray, List.set_cons_zero, List.set_cons_succ, i64_w, i32_w]
                          rfl
                        refine pure_ (i := 2) (N := some 40) (v := ?_) (a' := ?_) #[true, true, true, false, false, false, false, false, false, false, false, false, false, false, false, false, false] rfl rfl (any_of HT_.out (by kernel_rfl)) (fun _ _ _ h => h) (Or.inl ⟨by rfl, ?_⟩) ?_ ?_
                        rotate_left
                        · intro w'
                          go_simp
                          with_reducible rfl
                        rotate_left
                        · simp only [Act.put, List.setIfInBounds_toArray, List.set_cons_zero, List.set_cons_succ, i64_w, i32_w]
                          rfl
                        refine pure_ (i := 3) (N := some 41) (v := ?_) (a' := ?_) #[true, true, true, true, false, false, false, false, false, false, false, false, false, false, false, false, false] rfl rfl (any_of HT_.out (by kernel_rfl)) (fun _ _ _ h => h) (Or.inl ⟨by rfl, ?_⟩) ?_ ?_
                        rotate_left
                        · intro w'
                          go_simp
                          with_reducible rfl
                        rotate_left
                        · simp only [Act.put, List.setIfInBounds_toArray, List.set_cons_zero, List.set_cons_succ, i64_w, i32_w]
                          rfl
                        refine pure_ (i := 7) (N := some 45) (v := ?_) (a' := ?_) #[true, true, true, true, false, false, false, true, false, false, false, false, false, false, false, false, false] rfl rfl (any_of HT_.out (by kernel_rfl)) (fun _ _ _ h => h) (Or.inl ⟨by rfl, ?_⟩) ?_ ?_
                        rotate_left
                        · intro w'
                          go_simp
                          with_reducible rfl
                        rotate_left
                        · simp only [Act.put, List.setIfInBounds_toArray, List.set_cons_zero, List.set_cons_succ, i64_w, i32_w]
                          rfl
                        refine pure_ (i := 8) (N := some 46) (v := ?_) (a' := ?_) #[true, true, true, true, false, false, false, true, true, false, false, false, false, false, false, false, false] rfl rfl (any_of HT_.out (by kernel_rfl)) (fun _ _ _ h => h) (Or.inl ⟨by rfl, ?_⟩) ?_ ?_
                        rotate_left
                        · intro w'
                          go_simp
                          with_reducible rfl
                        rotate_left
                        · simp only [Act.put, List.setIfInBounds_toArray, List.set_cons_zero, List.set_cons_succ, i64_w, i32_w]
                          rfl
                        refine pure_ (i := 9) (N := some 47) (v := ?_) (a' := ?_) #[true, true, true, true, false, false, false, true, true, true, false, false, false, false, false, false, false] rfl rfl (any_of HT_.out (by kernel_rfl)) (fun _ _ _ h => h) (Or.inl ⟨by rfl, ?_⟩) ?_ ?_
                        rotate_left
                        · intro w'
                          go_simp
                          with_reducible rfl
                        rotate_left
                        · simp only [Act.put, List.setIfInBounds_toArray, List.set_cons_zero, List.set_cons_succ, i64_w, i32_w]
                          rfl
                        refine take_ (i := 4) (N := some 42) (v := ?_) (a' := ?_) #[true, true, true, true, true, false, false, true, true, true, false, false, false, false, false, false, false] rfl rfl (take_ofW HT_.out HW_.out (by kernel_rfl)) (fun _ _ _ h => h) (Or.inl ⟨by rfl, ?_⟩) hHeld ?_ ?_
                        rotate_left
                        · intro w' _
                          go_simp
                          with_reducible rfl
                        rotate_left
                        · simp only [Act.put, List.setIfInBounds_toArray, List.set_cons_zero, List.set_cons_succ, i64_w, i32_w]
                          rfl
                        refine take_ (i := 10) (N := some 48) (v := ?_) (a' := ?_) #[true, true, true, true, true, false, false, true, true, true, true, false, false, false, false, false, false] rfl rfl (take_ofW HT_.out HW_.out (by kernel_rfl)) (fun _ _ _ h => h) (Or.inl ⟨by rfl, ?_⟩) hHeld ?_ ?_
                        rotate_left
                        · intro w' _
                          go_simp
                          with_reducible rfl
                        rotate_left
                        · simp only [Act.put, List.setIfInBounds_toArray, List.set_cons_zero, List.set_cons_succ, i64_w, i32_w]
                          rfl
                        refine one_ (i := 5) (N := some 43) #[true, true, true, true, true, true, false, true, true, true, true, false, false, false, false, false, false] rfl rfl (one_of HT_.out (by kernel_rfl)) (by decide) (fun K hK => ?_)
                        refine goes_ Tryz.func139 (by kernel_rfl) rfl #[.int .u8 (bt a0 (ji19))] (by rfl) rfl rfl (by (try simp only [List.map_toArray, List.map_cons, List.map_nil]); first | done | (simp only [hji19]; rfl) | rfl | (simp only [List.length_drop, List.length_take]; rfl)) ?_
                        with_reducible refine (parapetref9_hex.calls kj2 (bt a0 (ji19)) t162 _ A23.out).mono ?_
                        rintro e w' ⟨rfl, ⟨nd, rfl⟩⟩
                        refine ⟨_, rfl, ?_⟩
                        refine hK.out _ _ trivial (fun hHeld => ?_)
                        clear hK K
                        refine norm_ (a' := ?_) ?_ ?_
                        rotate_left
                        · show Act.put _ (some 43) _ = _
                          simp only [Act.put, List.setIfInBounds_toArray, List.set_cons_zero, List.set_cons_succ, i64_w, i32_w]
                          rfl
                        refine pure_ (i := 6) (N := some 44) (v := ?_) (a' := ?_) #[true, true, true, true, true, true, true, true, true, true, true, false, false, false, false, false, false] rfl rfl (any_of HT_.out (by kernel_rfl)) (fun _ _ _ h => h) (Or.inl ⟨by rfl, ?_⟩) ?_ ?_
                        rotate_left
                        · intro w'
                          go_simp
                          with_reducible rfl
                        rotate_left
                        · simp only [Act.put, List.setIfInBounds_toArray, List.set_cons_zero, List.set_cons_succ, i64_w, i32_w]
                          rfl
                        refine one_ (i := 11) (N := some 49) #[true, true, true, true, true, true, true, true, true, true, true, true, false, false, false, false, false] rfl rfl (one_of HT_.out (by kernel_rfl)) (by decide) (fun K hK => ?_)
                        refine goes_ Tryz.func139 (by kernel_rfl) rfl #[.int .u8 (bt a0 (ji24))] (by rfl) rfl rfl (by (try simp only [List.map_toArray, List.map_cons, List.map_nil]); first | done | (simp only [hji24]; rfl) | rfl | (simp only [List.length_drop, List.length_take]; rfl)) ?_
                        with_reducible refine (parapetref9_hex.calls kj2 (bt a0 (ji24)) t163 _ A28.out).mono ?_
                        rintro e w' ⟨rfl, ⟨nd, rfl⟩⟩
                        refine ⟨_, rfl, ?_⟩
                        refine hK.out _ _ trivial (fun hHeld => ?_)
                        clear hK K
                        refine norm_ (a' := ?_) ?_ ?_
                        rotate_left
                        · show Act.put _ (some 49) _ = _
                          simp only [Act.put, List.setIfInBounds_toArray, List.set_cons_zero, List.set_cons_succ, i64_w, i32_w]
                          rfl
                        refine pure_ (i := 12) (N := some 50) (v := ?_) (a' := ?_) #[true, true, true, true, true, true, true, true, true, true, true, true, true, false, false, false, false] rfl rfl (any_of HT_.out (by kernel_rfl)) (fun _ _ _ h => h) (Or.inl ⟨by rfl, ?_⟩) ?_ ?_
                        rotate_left
                        · intro w'
                          go_simp
                          with_reducible rfl
                        rotate_left
                        · simp only [Act.put, List.setIfInBounds_toArray, List.set_cons_zero, List.set_cons_succ, i64_w, i32_w]
                          rfl
                        refine pure_ (i := 13) (N := some 51) (v := ?_) (a' := ?_) #[true, true, true, true, true, true, true, true, true, true, true, true, true, true, false, false, false] rfl rfl (any_of HT_.out (by kernel_rfl)) (fun _ _ _ h => h) (Or.inl ⟨by rfl, ?_⟩) ?_ ?_
                        rotate_left
                        · intro w'
                          go_simp
                          with_reducible rfl
                        rotate_left
                        · simp only [Act.put, List.setIfInBounds_toArray, List.set_cons_zero, List.set_cons_succ, i64_w, i32_w]
                          rfl
                        refine one_ (i := 14) (N := some 52) #[true, true, true, true, true, true, true, true, true, true, true, true, true, true, true, false, false] rfl rfl (one_of HT_.out (by kernel_rfl)) (by decide) (fun K hK => ?_)
                        refine value_ (w1 := ?_) (v := ?_) (by rfl) rfl ?_ ?_
                        rotate_left 2
                        · go_simp
                          constructor
                          · rfl
                          · rfl
                        refine hK.out _ _ trivial (fun hHeld => ?_)
                        clear hK K
                        refine norm_ (a' := ?_) ?_ ?_
                        rotate_left
                        · show Act.put _ (some 52) _ = _
                          simp only [Act.put, List.setIfInBounds_toArray, List.set_cons_zero, List.set_cons_succ, i64_w, i32_w]
                          rfl
                        refine one_ (i := 15) (N := some 53) #[true, true, true, true, true, true, true, true, true, true, true, true, true, true, true, true, false] rfl rfl (one_of HT_.out (by kernel_rfl)) (by decide) (fun K hK => ?_)
                        refine Kd.R_append_step (Kd.int .u8) (w0 := w) w.heap.size (by rfl) (.tmp 38) (.tmp 52) 46 5 (.int .u8 0) 1 rfl Tryz.underlying46 info5 rfl (by decide) (by omega) u3 x3_1 ((wrap64 ((wrap64 (16 * t162)) + t163)) % 256) [.int .u8 ((wrap64 ((wrap64 (16 * t162)) + t163)) % 256)] (fun _ => True) (fun _ => False) rfl rfl ?aP (fun _ hk => hk.elim) ?aF ?aO ?aB ?aS ?aL ?_
                        (case aP => exact rfl)
                        (case aB => exact (by repeat (first | (with_reducible first | exact HB.out | apply below_alloc | apply pw_below_drewN | apply below_drew1) | exact HB.out)))
                        (case aF => exact (fun _ _ => trivial))
                        (case aO => exact (by (with_reducible repeat (first | apply Kd.R_alloc | apply Kd.R_drewN | apply Kd.R_drew)); exact HO_3.out))
                        (case aS => exact (below_size (by repeat (first | (with_reducible first | exact HB.out | apply below_alloc | apply pw_below_drewN | apply below_drew1) | exact HB.out))))
                        (case aL => have := LMc29.out; omega)
                        intro v165 w31 ho hb hg hat
                        rw [← Ny164.out] at ho
                        have n0_ := Aside0.mk (hb)
                        have n1_ := Aside0.mk (ho)
                        clear HB
                        clear HO_3
                        have HB := n0_
                        have HO166 := n1_
                        clear n0_ n1_
                        clear ho hb hg hat
                        refine hK.out _ _ trivial (fun hHeld => ?_)
                        clear hK K
                        refine norm_ (a' := ?_) ?_ ?_
                        rotate_left
                        · show Act.put _ (some 53) _ = _
                          simp only [Act.put, List.setIfInBounds_toArray, List.set_cons_zero, List.set_cons_succ, i64_w, i32_w]
                          rfl
                        refine pure_ (i := 16) (N := some 3) (v := ?_) (a' := ?_) #[true, true, true, true, true, true, true, true, true, true, true, true, true, true, true, true, true] rfl rfl (any_of HT_.out (by kernel_rfl)) (fun _ _ _ h => h) (Or.inl ⟨by rfl, ?_⟩) ?_ ?_
                        rotate_left
                        · intro w'
                          go_simp
                          with_reducible rfl
                        rotate_left
                        · simp only [Act.put, List.setIfInBounds_toArray, List.set_cons_zero, List.set_cons_succ, i64_w, i32_w]
                          rfl
                        refine done_ (done_of HT_.out (by kernel_rfl)) ?_
                        try go_wp2
                        go_roundg kj2
                        case measure => have := HK1.out; have := HJ2.out; omega
                        case rel => exact ⟨(y164), (wrap64 ((ji24) + 1)), (by first | rfl | (simp; done) | (simp only [← hji24] <;> (first | rfl | simp)) | (simp [*]; done)), H', ⟨by have := HK1.out; have := HJ2.out; omega⟩, ⟨by (with_reducible repeat (first | apply Kd.R_alloc | apply Kd.R_drewN | apply Kd.R_drew)); exact HO166.out⟩, ⟨by repeat (first | (with_reducible first | exact HB.out | apply below_alloc | apply pw_below_drewN | apply below_drew1) | exact HB.out)⟩⟩
                      · rw [if_neg c29] at H
                        exact absurd H (by simp)
                    · rw [if_neg c26] at H
                      exact absurd H (by simp)
                  · rw [if_neg c25] at H
                    exact absurd H (by simp)
                · rw [if_neg c21] at H
                  exact absurd H (by simp)
              · rw [if_neg c20] at H
                exact absurd H (by simp)
            · replace c18 := Bool.eq_false_iff.mpr c18
              subst c18
              have H1 : (if 0 ≤ x4_1 then (if x4_1 < (a0.size : Int) then (if x3_1.length < 140737488355328 then (parapetref9_Decode.l0 kj2 a0 (x3_1 ++ [bt a0 x4_1]) (wrap64 (x4_1 + 1))) else (none)) else (none)) else (none)) = some r := by rw [if_neg (show ¬ (false = true) by decide)] at H; exact H
              clear H
              have H := H1
              clear H1
              by_cases c32 : 0 ≤ x4_1
              · rw [if_pos c32] at H
                have c32b0 : decide (0 ≤ x4_1) = true := decide_eq_true c32
                clear c32
                by_cases c33 : x4_1 < (a0.size : Int)
                · rw [if_pos c33] at H
                  have c33b0 : decide (x4_1 < (a0.size : Int)) = true := decide_eq_true c33
                  clear c33
                  by_cases c35 : x3_1.length < 140737488355328
                  · rw [if_pos c35] at H
                    have LMc35 := Aside0.mk c35
                    clear c35
                    obtain ⟨y167, hy167⟩ : ∃ y_ : List Int, y_ = (x3_1 ++ [bt a0 x4_1]) := ⟨_, rfl⟩
                    replace H : (parapetref9_Decode.l0 kj2 a0 y167 (wrap64 (x4_1 + 1))) = some r := by first | (rw [hy167]; with_reducible exact H) | (have H2_ := (Option.bind_some _ _).symm.trans H; rw [hy167]; with_reducible exact H2_) | (have H2_ := (Option.bind_some _ _).symm.trans H; with_reducible exact H2_) | with_reducible exact H | (rw [hy167]; exact H) | exact H
                    have Ny167 := Aside0.mk hy167
                    clear hy167
                    have H' := Aside0.mk H
                    clear H
                    have p34 : 0 ≤ (x4_1 : Int) := of_decide_eq_true (by first | (with_reducible assumption) | assumption)
                    have q34 : x4_1 < (a0.size : Int) := of_decide_eq_true (by first | (with_reducible assumption) | assumption)
                    have hx34 := bt_at a0 x4_1
                    replace p34 := eq_true p34
                    replace q34 := eq_true q34
                    go_wp2_with (first | ((with_reducible refine gate_builtin (b := .append) (xs := #[.tmp 56, .tmp 60]) rfl ?_); (try (refine gate_guard (by rfl) ?_; dsimp only)); at_builtin; refine Kd.R_append (Kd.int .u8) (w0 := w) w.heap.size rfl (.tmp 56) (.tmp 60) 46 5 (.int .u8 0) 1 rfl Tryz.underlying46 info5 rfl (by decide) (by omega) u3 x3_1 (bt a0 x4_1) [.int .u8 (bt a0 x4_1)] (fun _ => True) (fun _ => False) rfl rfl ?aP (fun _ hk => hk.elim) ?aF ?aO ?aB ?aS ?aL ?_; (case aP => exact rfl); (case aB => exact (by repeat (first | (with_reducible first | exact HB.out | apply below_alloc | apply pw_below_drewN | apply below_drew1) | exact HB.out))); (case aF => exact (fun _ _ => trivial)); (case aO => exact (by (with_reducible repeat (first | apply Kd.R_alloc | apply Kd.R_drewN | apply Kd.R_drew)); exact HO_3.out)); (case aS => exact (below_size (by repeat (first | (with_reducible first | exact HB.out | apply below_alloc | apply pw_below_drewN | apply below_drew1) | exact HB.out)))); (case aL => have := LMc35.out; omega); intro v168 w36 ho hb hg hat; rw [← Ny167.out] at ho; have n0_ := Aside0.mk (hb); have n1_ := Aside0.mk (ho); clear HB; clear HO_3; have HB := n0_; have HO169 := n1_; clear n0_ n1_; clear ho hb hg hat))
                    go_roundg kj2
                    case measure => have := HK1.out; have := HJ2.out; omega
                    case rel => exact ⟨(y167), (wrap64 (x4_1 + 1)), (by first | rfl | (simp; done) | (simp [*]; done)), H', ⟨by have := HK1.out; have := HJ2.out; omega⟩, ⟨by (with_reducible repeat (first | apply Kd.R_alloc | apply Kd.R_drewN | apply Kd.R_drew)); exact HO169.out⟩, ⟨by repeat (first | (with_reducible first | exact HB.out | apply below_alloc | apply pw_below_drewN | apply below_drew1) | exact HB.out)⟩⟩
                  · rw [if_neg c35] at H
                    exact absurd H (by simp)
                · rw [if_neg c33] at H
                  exact absurd H (by simp)
              · rw [if_neg c32] at H
                exact absurd H (by simp)
      · rw [if_neg c2] at H
        have c2b0 : decide (x4_1 < (a0.size : Int)) = false := decide_eq_false c2
        clear c2
        obtain rfl := Option.some.inj H
        have hcv37 := own_string (P := Tryz.prog) Tryz.underlying46 Tryz.underlying5 Tryz.underlying9 (Kd.own_of_R HO_3.out)
        go_wp2
        go_ret
        exact ⟨by first | rfl | (simp [errW_none, errW_some] <;> rfl) | (simp [*, errW_none, errW_some] <;> rfl), by repeat (first | (with_reducible first | exact HB.out | apply below_alloc | apply pw_below_drewN | apply below_drew1) | exact HB.out)⟩
end Go.Proofs.YtcmcopieagpppaaGreatDoor.P
