/- A part of the proof of the statement Up: what is proved here of the program serves its last text; its conditions stand in the theorems. -/
import Derived.Test.YtcmcopieagpppaaGreatDoorKUp2
import Derived.Test.YtcmcopieagpppaaGreatDoorKUp3
import Derived.Test.YtcmcopieagpppaaGreatDoorKUp4
import Derived.Laws.BitsAllLaws
import Derived.Lib.Hide
import Derived.Lib.ValidLaws
namespace Go.Proofs.YtcmcopieagpppaaGreatDoor.P
open Go.RowKit Go.Proofs.YtcmcopieagpppaaGreatDoorW.PrintWords Go.Proofs.YtcmcopieagpppaaGreatDoorW.PrintLast Go.Proofs.YtcmcopieagpppaaGreatDoorW.PrintMore
set_option linter.unusedVariables false
set_option linter.unusedSimpArgs false
theorem dec_nil : Web.dec [] = [] := by rw [Web.dec]
theorem dec_esc (a b : UInt8) (t : List UInt8) (x y : Nat) (ha : Web.hexV a = some x) (hb : Web.hexV b = some y) : Web.dec (37 :: a :: b :: t) = UInt8.ofNat (16 * x + y) :: Web.dec t := by
  rw [Web.dec]
  simp [ha, hb]
theorem dec_plain (c : UInt8) (t : List UInt8) (h : ∀ a b t', c = 37 → t = a :: b :: t' → (Web.hexV a = none ∨ Web.hexV b = none)) : Web.dec (c :: t) = c :: Web.dec t := by
  match t, h with
  | [], h => simp [Web.dec]
  | [a], h => simp [Web.dec]
  | a :: b :: t', h =>
    rw [Web.dec]
    by_cases hc : c = 37
    · rcases h a b t' hc rfl with e | e
      · simp [hc, e]
      · rw [if_pos hc]
        cases Web.hexV a <;> simp [e]
    · simp [hc]
theorem dec_len : ∀ (n : Nat) (l : List UInt8), l.length ≤ n → (Web.dec l).length ≤ l.length
  | 0, l, h => by
    obtain rfl : l = [] := List.eq_nil_of_length_eq_zero (by omega)
    rw [dec_nil]; exact Nat.le_refl _
  | n + 1, [], h => by rw [dec_nil]; exact Nat.le_refl _
  | n + 1, c :: t, h => by
    simp only [List.length_cons] at h
    by_cases hp : ∀ a b t', c = 37 → t = a :: b :: t' → (Web.hexV a = none ∨ Web.hexV b = none)
    · rw [dec_plain c t hp]
      have := dec_len n t (by omega)
      simp only [List.length_cons]
      omega
    · obtain ⟨a, b, t', hc, ht, hn⟩ : ∃ a b t', c = 37 ∧ t = a :: b :: t' ∧ ¬ (Web.hexV a = none ∨ Web.hexV b = none) := by
        apply Classical.byContradiction
        intro hh
        exact hp fun a b t' h1 h2 => Classical.byContradiction fun h3 => hh ⟨a, b, t', h1, h2, h3⟩
      subst hc ht
      cases ha : Web.hexV a with
      | none => exact absurd (.inl ha) hn
      | some x =>
        cases hb : Web.hexV b with
        | none => exact absurd (.inr hb) hn
        | some y =>
          rw [dec_esc a b t' x y ha hb]
          simp only [List.length_cons] at h ⊢
          have := dec_len n t' (by omega)
          omega
theorem byte_put (x y : Nat) (hx : x < 16) (hy : y < 16) : wrap64 (wrap64 (16 * (x : Int)) + (y : Int)) % 256 = ((UInt8.ofNat (16 * x + y)).toNat : Int) := by
  rw [UInt8.toNat_ofNat']
  unfold wrap64
  omega
theorem decode_loop (l : List UInt8) (hl : l.length < 70368744177664) : ∀ (d i k : Nat) (acc : List UInt8), i + d = l.length → acc.length ≤ i → 2 * d + 4 < k →
    parapetref9_Decode.l0 k (ba l) (nums8 acc) (i : Int) = some (ba (acc ++ Web.dec (l.drop i))) := by
  intro d
  induction d using Nat.strongRecOn with
  | ind d ih =>
    intro i k acc hi ha hk
    obtain ⟨k, rfl⟩ : ∃ m, k = m + 2 := ⟨k - 2, by omega⟩
    rw [parapetref9_Decode.l0.eq_def]
    simp only []
    by_cases hd : d = 0
    · subst hd
      rw [if_neg (by rw [ba_size]; omega), List.drop_eq_nil_of_le (by omega), dec_nil, List.append_nil, str_nums8]
    · have hi' : i < l.length := by omega
      have hb := bt_ba l i hi'
      have h1 : wrap64 ((i : Int) + 1) = ((i + 1 : Nat) : Int) := wrap_up (by omega)
      have h2 : wrap64 ((i : Int) + 2) = ((i + 2 : Nat) : Int) := by unfold wrap64; omega
      rw [if_pos (by rw [ba_size]; omega), if_pos (by omega), hb, h1, h2]
      have plain : (∀ a b t', l[i] = 37 → l.drop (i + 1) = a :: b :: t' → (Web.hexV a = none ∨ Web.hexV b = none)) →
          parapetref9_Decode.j1 (k + 1) (ba l) (nums8 acc) (i : Int) false = some (ba (acc ++ Web.dec (l.drop i))) := by
        intro hp
        simp only [parapetref9_Decode.j1]
        rw [if_neg (by simp), if_pos (by omega), if_pos (by rw [ba_size]; omega), if_pos (by rw [nums8_len]; omega), hb, nums8_snoc, h1,
          ih (d - 1) (by omega) (i + 1) k _ (by omega) (by rw [List.length_append, List.length_singleton]; omega) (by omega), List.drop_eq_getElem_cons hi', dec_plain _ _ hp]
        simp
      by_cases hc : l[i] = 37
      · rw [if_pos (by rw [hc]; rfl)]
        by_cases h3 : i + 2 < l.length
        · have hd1 : l.drop (i + 1) = l[i + 1] :: l[i + 2] :: l.drop (i + 3) := by
            rw [List.drop_eq_getElem_cons (by omega : i + 1 < l.length), List.drop_eq_getElem_cons (by omega : i + 1 + 1 < l.length)]
          rw [if_pos (by rw [ba_size]; omega), if_pos (by omega), if_pos (by rw [ba_size]; omega), bt_ba l (i + 1) (by omega), bt_ba l (i + 2) h3, hex_eq _ _ (by omega), hex_eq _ _ (by omega)]
          simp only [Option.bind_some]
          rw [hexI_V, hexI_V]
          cases e1 : Web.hexV l[i + 1] with
          | none =>
            simp only []
            rw [if_neg (by decide)]
            exact plain (fun a b t' _ ht => by rw [hd1] at ht; injection ht with ht _; exact .inl (by rw [← ht]; exact e1))
          | some x =>
            have hx := hexV_lt _ _ e1
            simp only []
            rw [if_pos (by omega), if_pos (by omega)]
            cases e2 : Web.hexV l[i + 2] with
            | none =>
              simp only []
              rw [show decide ((-1 : Int) ≥ 0) = false from by decide]
              exact plain (fun a b t' _ ht => by rw [hd1] at ht; injection ht with _ ht; injection ht with ht _; exact .inr (by rw [← ht]; exact e2))
            | some y =>
              have hy := hexV_lt _ _ e2
              simp only []
              rw [show decide ((y : Int) ≥ 0) = true from by simp]
              simp only [parapetref9_Decode.j1]
              rw [if_pos trivial, h1, h2, if_pos (by omega), if_pos (by rw [ba_size]; omega), bt_ba l (i + 1) (by omega), hex_eq _ _ (by omega)]
              simp only [Option.bind_some]
              rw [if_pos (by omega), if_pos (by rw [ba_size]; omega), bt_ba l (i + 2) h3, hex_eq _ _ (by omega)]
              simp only [Option.bind_some]
              rw [if_pos (by rw [nums8_len]; omega), hexI_V, hexI_V, e1, e2]
              simp only []
              rw [byte_put x y hx hy, nums8_snoc, show wrap64 (((i + 2 : Nat) : Int) + 1) = ((i + 3 : Nat) : Int) from by unfold wrap64; omega,
                ih (d - 3) (by omega) (i + 3) k _ (by omega) (by rw [List.length_append, List.length_singleton]; omega) (by omega),
                List.drop_eq_getElem_cons hi', hd1, hc, dec_esc _ _ _ x y e1 e2]
              simp
        · rw [if_neg (by rw [ba_size]; omega)]
          exact plain (fun a b t' _ ht => by
            have := congrArg List.length ht
            rw [List.length_drop] at this
            simp at this
            omega)
      · rw [if_neg (by rw [show (37 : Int) = ((37 : UInt8).toNat : Int) from rfl, u8_eq]; exact hc)]
        exact plain (fun a b t' h => absurd h hc)
theorem ref_decode_eq (l : List UInt8) (hl : l.length < 70368744177664) (k : Nat) (hk : 2 * l.length + 4 < k) : parapetref9_Decode.f k (ba l) = some (ba (Web.dec l)) := by
  have := decode_loop l hl l.length 0 k [] (by omega) (by simp) (by omega)
  unfold parapetref9_Decode.f
  simpa [nums8] using this
theorem numeric_hex (t : List UInt8) (b : UInt8) (h : b = 120 ∨ b = 88) : Web.numeric (48 :: b :: t) = Web.allDig 16 t := by
  unfold Web.numeric
  rw [hexTail_two, if_pos ⟨rfl, h⟩]
theorem numeric_dec (l : List UInt8) (h : Web.hexTail l = none) : Web.numeric l = (Web.allDig 10 l && !l.isEmpty) := by
  unfold Web.numeric
  rw [h]
  simp only []
  exact Bool.and_comm _ _
theorem hexTail_none (l : List UInt8) (h : ∀ b t, l = 48 :: b :: t → b ≠ 120 ∧ b ≠ 88) : Web.hexTail l = none := by
  match l, h with
  | [], _ => rfl
  | [a], _ => rfl
  | a :: b :: t, h =>
    rw [hexTail_two, if_neg]
    rintro ⟨rfl, hb⟩
    have := h b t rfl
    rcases hb with rfl | rfl
    · exact this.1 rfl
    · exact this.2 rfl
theorem ref_numeric_last (p : List UInt8) (hp : p.length ≤ 9223372036854775806) :
    ((parapetref9_digits.f (ba p) 10).bind fun t179 => (if t179 = true then (some true) else (if ((ba p).size : Int) ≥ 2 then (if 0 < ((ba p).size : Int) then (if (bt (ba p) 0) = 48 then (if 1 < ((ba p).size : Int) then (if (bt (ba p) 1) = 120 then (if ((ba p).size : Int) = 2 then (some true) else (if 2 ≤ ((ba p).size : Int) then ((parapetref9_digits.f ((ba p).extract 2 (ba p).size) 16).bind fun t180 => (some t180)) else (none))) else (if (bt (ba p) 1) = 88 then (if ((ba p).size : Int) = 2 then (some true) else (if 2 ≤ ((ba p).size : Int) then ((parapetref9_digits.f ((ba p).extract 2 (ba p).size) 16).bind fun t181 => (some t181)) else (none))) else (some false))) else (none)) else (some false)) else (none)) else (some false)))) = some (Web.numeric p) := by
  have hd : parapetref9_digits.f (ba p) 10 = some (Web.allDig 10 p && !p.isEmpty) := by
    unfold parapetref9_digits.f
    rw [if_pos (by rw [ba_size]; exact hp), ba_list]
    congr 1
    exact digitsI_eq p 10
  rw [hd]
  simp only [Option.bind_some]
  by_cases h10 : (Web.allDig 10 p && !p.isEmpty) = true
  · rw [if_pos h10]
    have hn : Web.hexTail p = none := hexTail_none p (fun b t e => by
      subst e
      have h := (Bool.and_eq_true _ _ ▸ h10 : _ ∧ _).1
      obtain ⟨v, hv, _⟩ := allDig_at h 1 (by simp)
      have hv' : Web.hexV b = some v := hv
      constructor
      · rintro rfl; cases (show Web.hexV 120 = none from by decide).symm.trans hv'
      · rintro rfl; cases (show Web.hexV 88 = none from by decide).symm.trans hv')
    rw [numeric_dec p hn, h10]
  · rw [if_neg h10]
    match p, hp, h10 with
    | [], hp, h10 => rw [if_neg (by rw [ba_size]; simp)]; rfl
    | [a], hp, h10 => rw [if_neg (by rw [ba_size]; simp), numeric_dec [a] rfl]; simp only [Bool.not_eq_true] at h10; rw [h10]
    | a :: b :: t, hp, h10 =>
      have hbt : bt (ba (a :: b :: t)) 0 = (a.toNat : Int) := bt_ba (a :: b :: t) 0 (by simp)
      have hbt1 : bt (ba (a :: b :: t)) 1 = (b.toNat : Int) := bt_ba (a :: b :: t) 1 (by simp)
      rw [if_pos (by rw [ba_size]; simp; omega), if_pos (by rw [ba_size]; simp; omega), hbt, hbt1]
      have tail : (a = 48 ∧ (b = 120 ∨ b = 88)) → (if ((ba (a :: b :: t)).size : Int) = 2 then (some true) else (if 2 ≤ ((ba (a :: b :: t)).size : Int) then ((parapetref9_digits.f ((ba (a :: b :: t)).extract 2 (ba (a :: b :: t)).size) 16).bind fun t180 => (some t180)) else (none))) = some (Web.numeric (a :: b :: t)) := by
        rintro ⟨rfl, hb⟩
        rw [numeric_hex t b hb]
        by_cases ht : t = []
        · subst ht
          rw [if_pos (by rw [ba_size]; rfl)]
          rfl
        · have hlen := List.length_pos_iff.2 ht
          rw [if_neg (by rw [ba_size]; simp; omega), if_pos (by rw [ba_size]; simp; omega), ba_extract, ba_size, List.take_length]
          show (parapetref9_digits.f (ba t) 16).bind _ = _
          unfold parapetref9_digits.f
          rw [if_pos (by rw [ba_size]; simp at hp; omega), ba_list]
          have e := digitsI_eq t 16
          have e' : digitsI t 16 = (Web.allDig 16 t && !t.isEmpty) := e
          rw [e']
          cases t with
          | nil => exact absurd rfl ht
          | cons x y => simp
      by_cases ha : a = 48
      · rw [if_pos (by rw [ha]; rfl), if_pos (by rw [ba_size]; simp; omega)]
        by_cases hb : b = 120
        · rw [if_pos (by rw [hb]; rfl)]
          exact tail ⟨ha, .inl hb⟩
        · rw [if_neg (by rw [show (120 : Int) = ((120 : UInt8).toNat : Int) from rfl, u8_eq]; exact hb)]
          by_cases hb' : b = 88
          · rw [if_pos (by rw [hb']; rfl)]
            exact tail ⟨ha, .inr hb'⟩
          · rw [if_neg (by rw [show (88 : Int) = ((88 : UInt8).toNat : Int) from rfl, u8_eq]; exact hb'),
              numeric_dec _ (hexTail_none _ (fun b' t' e => by injection e with _ e; injection e with e _; subst e; exact ⟨hb, hb'⟩))]
            simp only [Bool.not_eq_true] at h10
            rw [h10]
      · rw [if_neg (by rw [show (48 : Int) = ((48 : UInt8).toNat : Int) from rfl, u8_eq]; exact ha),
          numeric_dec _ (hexTail_none _ (fun b' t' e => by injection e with e _; exact absurd e ha))]
        simp only [Bool.not_eq_true] at h10
        rw [h10]
theorem last_part (l : List UInt8) : (Web.partsOf l).getLast?.getD [] = (Web.partsOf l)[(Web.partsOf l).length - 1]'(by have := List.length_pos_iff.2 (partsOf_ne l); omega) := by
  rw [getLast_at _ (partsOf_ne l)]
  rfl
theorem ref_numeric_eq (l : List UInt8) (hl : l.length < 8796093022200) (k : Nat) (hk : l.length < k) : parapetref9_numeric.f k (ba l) = some (Web.numeric ((Web.partsOf l).getLast?.getD [])) := by
  unfold parapetref9_numeric.f
  have hne := List.length_pos_iff.2 (partsOf_ne l)
  have hle : (Web.partsOf l).length ≤ 8796093022300 := by
    have := splitOn_len 46 l
    rw [partsOf_def]
    split
    · rw [List.length_dropLast]; omega
    · omega
  rw [parts_eq l k hl hk]
  simp only [Option.bind_some, List.length_map]
  rw [show wrap64 (((Web.partsOf l).length : Int) - 1) = (((Web.partsOf l).length - 1 : Nat) : Int) from by unfold wrap64; omega, if_pos (by omega), if_pos (by omega), rdOf_ba _ _ (by omega), last_part]
  refine ref_numeric_last _ ?_
  have := partsOf_piece l _ (List.getElem_mem (show (Web.partsOf l).length - 1 < (Web.partsOf l).length by omega))
  omega
theorem ref_host_loop (d : List UInt8) (hl : d.length < 8796093022200) (K : Nat) (hK : 8796093022400 < K) : ∀ n i k, i + n = d.length → n + K < k →
    parapetref9_Host.l0 k (ba d) (i : Int) = some (if (d.drop i).any Web.forbidden then ((⟨#[]⟩ : ByteArray), (8 : Int)) else if Web.numeric ((Web.partsOf d).getLast?.getD []) then (match Web.number d with
      | some a => (ba (Web.addrText a), 0)
      | none => (⟨#[]⟩, 8)) else (ba d, 0))
  | 0, i, k, hi, hk => by
    obtain ⟨k, rfl⟩ : ∃ m, k = m + 1 := ⟨k - 1, by omega⟩
    simp only [parapetref9_Host.l0]
    rw [if_neg (by rw [ba_size]; omega), List.drop_eq_nil_of_le (by omega), ref_numeric_eq d hl k (by omega), ref_number_eq d hl k (by omega)]
    simp only [Option.bind_some]
    have hf : ¬ (([] : List UInt8).any Web.forbidden = true) := by simp
    rw [if_neg hf]
    by_cases hn : Web.numeric ((Web.partsOf d).getLast?.getD []) = true
    · rw [if_pos hn, if_pos hn]
      unfold pairOf
      cases e : Web.number d with
      | none => rfl
      | some a =>
        have := number_lt d a e
        simp only [if_true]
        unfold parapetref9_Address.f
        rw [if_pos (by omega)]
        rfl
    · rw [if_neg hn, if_neg hn]
  | n + 1, i, k, hi, hk => by
    obtain ⟨k, rfl⟩ : ∃ m, k = m + 1 := ⟨k - 1, by omega⟩
    have hi' : i < d.length := by omega
    have hh := has_eq [35, 37, 47, 58, 60, 62, 63, 64, 91, 92, 93, 94, 124] d[i] k (by decide) (by simp; omega)
    unfold ba at hh
    simp only [parapetref9_Host.l0]
    rw [if_pos (by rw [ba_size]; omega), if_pos (by omega), bt_ba d i hi', hh, List.drop_eq_getElem_cons hi', List.any_cons, wrap_up (by omega)]
    simp only [Option.bind_some]
    have ih := ref_host_loop d hl K hK n (i + 1) k (by omega) (by omega)
    by_cases h1 : d[i].toNat ≤ 32
    · rw [if_pos (by omega), if_pos (by simp [Web.forbidden, h1])]
    · rw [if_neg (by omega)]
      by_cases h2 : 127 ≤ d[i].toNat
      · rw [if_pos (by omega), if_pos (by simp [Web.forbidden, h2])]
      · rw [if_neg (by omega)]
        cases h3 : [35, 37, 47, 58, 60, 62, 63, 64, 91, 92, 93, 94, 124].contains d[i] with
        | true => rw [if_pos rfl, if_pos (by unfold Web.forbidden; rw [h3]; simp)]
        | false =>
          have hf : Web.forbidden d[i] = false := by
            unfold Web.forbidden
            rw [h3]
            simp
            omega
          rw [if_neg (by simp), hf, Bool.false_or]
          exact ih
def hostP (l : List UInt8) : ByteArray × Int := match Web.host l with
  | some h => (ba h, 0)
  | none => (⟨#[]⟩, 8)
theorem ref_host_eq (l : List UInt8) (hl : l.length < 8796093022200) (k : Nat) (hk : 17592186044900 < k) : parapetref9_Host.f k (ba l) = some (hostP l) := by
  have hd := dec_len l.length l (Nat.le_refl _)
  unfold parapetref9_Host.f
  rw [ref_decode_eq l (by omega) k (by omega)]
  simp only [Option.bind_some]
  rw [lower_eq _ k (by omega) (by omega)]
  simp only [Option.bind_some]
  rw [ba_toList]
  unfold hostP Web.host
  dsimp only
  have hL : (Web.lowerL (Web.dec l)).length ≤ l.length := by rw [Web.lowerL_length]; exact hd
  generalize Web.lowerL (Web.dec l) = d at hL ⊢
  by_cases h0 : d = []
  · rw [if_pos h0, if_pos h0]
  · rw [if_neg h0, if_neg h0]
    have := ref_host_loop d (by omega) 8796093022401 (by omega) d.length 0 k (by omega) (by omega)
    rw [List.drop_zero] at this
    refine this.trans ?_
    by_cases h1 : d.any Web.forbidden = true
    · rw [if_pos h1, if_pos h1]
    · rw [if_neg h1, if_neg h1]
      by_cases h2 : Web.numeric ((Web.partsOf d).getLast?.getD []) = true
      · rw [if_pos h2, if_pos h2]
        cases Web.number d <;> rfl
      · rw [if_neg h2, if_neg h2]
def dotsL (t : List UInt8) (n : Nat) : Nat := match t with
  | [] => if 2 < n then 0 else n
  | 46 :: r => dotsL r (n + 1)
  | 37 :: 50 :: 101 :: r => dotsL r (n + 1)
  | _ :: _ => 0
theorem dotsL_dot (r : List UInt8) (n : Nat) : dotsL (46 :: r) n = dotsL r (n + 1) := by rw [dotsL]
theorem dotsL_enc (r : List UInt8) (n : Nat) : dotsL (37 :: 50 :: 101 :: r) n = dotsL r (n + 1) := by rw [dotsL]; all_goals simp
theorem dotsL_no (c : UInt8) (r : List UInt8) (n : Nat) (h1 : c ≠ 46) (h2 : (c :: r).take 3 ≠ [37, 50, 101]) : dotsL (c :: r) n = 0 := by
  rw [dotsL]
  · intro e; exact h1 e
  · intro r' e1 e2; subst e1 e2; exact h2 rfl
theorem dotsL_many : ∀ (m : Nat) (t : List UInt8) (n : Nat), t.length ≤ m → 3 ≤ n → dotsL t n = 0
  | 0, t, n, ht, hn => by
    obtain rfl : t = [] := List.eq_nil_of_length_eq_zero (by omega)
    rw [dotsL, if_pos (by omega)]
  | m + 1, [], n, ht, hn => by rw [dotsL, if_pos (by omega)]
  | m + 1, c :: r, n, ht, hn => by
    simp only [List.length_cons] at ht
    by_cases h1 : c = 46
    · subst h1; rw [dotsL_dot]; exact dotsL_many m r _ (by omega) (by omega)
    · by_cases h2 : (c :: r).take 3 = [37, 50, 101]
      · match r, ht, h2 with
        | a :: b :: r', ht, h2 =>
          simp only [List.take_succ_cons, List.take_zero, List.cons.injEq, and_true] at h2
          obtain ⟨rfl, rfl, rfl⟩ := h2
          rw [dotsL_enc]
          simp only [List.length_cons] at ht
          exact dotsL_many m r' _ (by omega) (by omega)
        | [a], ht, h2 => simp at h2
        | [], ht, h2 => simp at h2
      · exact dotsL_no c r n h1 h2
theorem ref_dots_loop : ∀ (m : Nat) (t : List UInt8) (n k : Nat), t.length ≤ m → n + t.length < 4611686018427387904 → t.length < k → parapetref9_dots.l0 k (ba t) (n : Int) = some ((dotsL t n : Nat) : Int)
  | m, [], n, k, ht, hn, hk => by
    obtain ⟨k, rfl⟩ : ∃ m, k = m + 1 := ⟨k - 1, by omega⟩
    simp only [parapetref9_dots.l0]
    rw [if_pos (by rw [ba_toList]), dotsL]
    by_cases h : 2 < n
    · rw [if_pos (by omega), if_pos h]; rfl
    · rw [if_neg (by omega), if_neg h]
  | 0, c :: r, n, k, ht, hn, hk => by simp at ht
  | m + 1, c :: r, n, k, ht, hn, hk => by
    simp only [List.length_cons] at ht hn hk
    obtain ⟨k, rfl⟩ : ∃ m, k = m + 1 := ⟨k - 1, by omega⟩
    have hbt : bt (ba (c :: r)) 0 = (c.toNat : Int) := bt_ba (c :: r) 0 (by simp)
    simp only [parapetref9_dots.l0]
    rw [if_neg (by rw [ba_toList]; simp), if_pos (by rw [ba_size]; simp), hbt, wrap_up (by omega)]
    by_cases h1 : c = 46
    · subst h1
      rw [if_pos (by rfl), if_pos (by rw [ba_size]; simp; omega), ba_extract, ba_size, List.take_length, dotsL_dot]
      exact ref_dots_loop m r (n + 1) k (by omega) (by omega) (by omega)
    · rw [if_neg (by rw [show (46 : Int) = ((46 : UInt8).toNat : Int) from rfl, u8_eq]; exact h1)]
      by_cases h3 : 2 ≤ r.length
      · rw [if_pos (by rw [ba_size]; simp; omega), if_pos (by decide), if_pos (by rw [ba_size]; simp; omega), ba_extract, List.drop_zero, ba_toList, ba_extract, ba_size, List.take_length]
        by_cases h2 : (c :: r).take 3 = [37, 50, 101]
        · rw [if_pos h2]
          match r, ht, hn, hk, h2 with
          | a :: b :: r', ht, hn, hk, h2 =>
            simp only [List.take_succ_cons, List.take_zero, List.cons.injEq, and_true] at h2
            obtain ⟨rfl, rfl, rfl⟩ := h2
            simp only [List.length_cons] at ht hn hk
            rw [dotsL_enc]
            exact ref_dots_loop m r' (n + 1) k (by omega) (by omega) (by omega)
        · rw [if_neg h2, dotsL_no c r n h1 h2]; rfl
      · rw [if_neg (by rw [ba_size]; simp; omega), dotsL_no c r n h1 (fun e => by have := congrArg List.length e; simp at this; omega)]
        rfl
theorem dotsL_web (t : List UInt8) : dotsL t 0 = if t = [46] ∨ t = [37, 50, 101] then 1 else if t = [46, 46] ∨ t = [46, 37, 50, 101] ∨ t = [37, 50, 101, 46] ∨ t = [37, 50, 101, 37, 50, 101] then 2 else 0 := by
  have one : ∀ r : List UInt8, ∀ n, n < 3 → dotsL r n ≠ 0 → r = [] ∨ (∃ r', r = 46 :: r' ∧ dotsL r' (n + 1) ≠ 0) ∨ (∃ r', r = 37 :: 50 :: 101 :: r' ∧ dotsL r' (n + 1) ≠ 0) := by
    intro r n hn h
    match r with
    | [] => exact .inl rfl
    | c :: r =>
      by_cases h1 : c = 46
      · subst h1; rw [dotsL_dot] at h; exact .inr (.inl ⟨r, rfl, h⟩)
      · by_cases h2 : (c :: r).take 3 = [37, 50, 101]
        · match r, h2, h with
          | a :: b :: r', h2, h =>
            simp only [List.take_succ_cons, List.take_zero, List.cons.injEq, and_true] at h2
            obtain ⟨rfl, rfl, rfl⟩ := h2
            rw [dotsL_enc] at h
            exact .inr (.inr ⟨r', rfl, h⟩)
          | [a], h2, h => simp at h2
          | [], h2, h => simp at h2
        · exact absurd (dotsL_no c r n h1 h2) h
  by_cases hz : dotsL t 0 = 0
  · rw [hz]
    rw [if_neg, if_neg]
    · rintro (rfl | rfl | rfl | rfl) <;> simp [dotsL] at hz
    · rintro (rfl | rfl) <;> simp [dotsL] at hz
  · rcases one t 0 (by omega) hz with rfl | ⟨r, rfl, h⟩ | ⟨r, rfl, h⟩
    · simp [dotsL] at hz
    all_goals
      rcases one r 1 (by omega) h with rfl | ⟨r', rfl, h'⟩ | ⟨r', rfl, h'⟩
      · simp [dotsL]
      all_goals
        rcases one r' 2 (by omega) h' with rfl | ⟨r2, rfl, h2⟩ | ⟨r2, rfl, h2⟩
        · simp [dotsL]
        · exact absurd (dotsL_many _ r2 3 (Nat.le_refl _) (by omega)) h2
        · exact absurd (dotsL_many _ r2 3 (Nat.le_refl _) (by omega)) h2
theorem ref_dots_eq (l : List UInt8) (hl : l.length < 140737488355328) (k : Nat) (hk : l.length < k) : parapetref9_dots.f k (ba l) = some ((Web.dots l : Nat) : Int) := by
  unfold parapetref9_dots.f
  rw [lower_eq l k hl hk]
  simp only [Option.bind_some]
  have := ref_dots_loop (Web.lowerL l).length (Web.lowerL l) 0 k (Nat.le_refl _) (by rw [Web.lowerL_length]; omega) (by rw [Web.lowerL_length]; omega)
  refine this.trans ?_
  rw [dotsL_web]
  rfl
end Go.Proofs.YtcmcopieagpppaaGreatDoor.P
namespace Go.Proofs.YtcmcopieagpppaaGreatDoor.P
open Go.RowKit Go.Proofs.YtcmcopieagpppaaGreatDoorW.PrintWords Go.Proofs.YtcmcopieagpppaaGreatDoorW.PrintLast Go.Proofs.YtcmcopieagpppaaGreatDoorW.PrintMore
attribute [local go_sem] max2_int min2_int max_two min_two max_three min_three max_four min_four
set_option linter.unusedVariables false
set_option linter.unusedSimpArgs false
mutual
def parapetref9_runeAt.j2 : Nat → ByteArray → Int → Int → Int → Option (Int)
  | 0, _, _, _, _ => none
  | k + 1, x0, x4, x5, x6 => if (x0.size : Int) < x4 then (some 0) else (parapetref9_runeAt.l0 k x0 x4 x5 x6 1)
def parapetref9_runeAt.l0 : Nat → ByteArray → Int → Int → Int → Int → Option (Int)
  | 0, _, _, _, _, _ => none
  | k + 1, x0, x4, x5, x6, x7 => if x7 < x4 then (if 0 ≤ x7 then (if x7 < (x0.size : Int) then (if (Go.bits .and .u8 (bt x0 x7) 192) = 128 then (parapetref9_runeAt.l0 k x0 x4 (Go.bits .or .i64 (wrap64 (x5 * 64)) (wrap64 (Go.bits .and .u8 (bt x0 x7) 63))) x6 (wrap64 (x7 + 1))) else (some 0)) else (none)) else (none)) else (if x5 < x6 then (some 0) else (if x5 > 1114111 then (some 0) else (if x5 ≥ 55296 then (if x5 ≤ 57343 then (some 0) else (some x4)) else (some x4))))
def parapetref9_runeAt.j0 : Nat → ByteArray → Int → Int → Bool → Option (Int)
  | 0, _, _, _, _ => none
  | k + 1, x0, x3, x5, x15 => if x15 = true then (parapetref9_runeAt.j2 k x0 2 (Go.bits .and .i64 x5 31) 128) else (if x3 ≥ 224 then (parapetref9_runeAt.j1 k x0 x3 x5 (decide (x3 < 240))) else (parapetref9_runeAt.j1 k x0 x3 x5 false))
def parapetref9_runeAt.j1 : Nat → ByteArray → Int → Int → Bool → Option (Int)
  | 0, _, _, _, _ => none
  | k + 1, x0, x3, x5, x24 => if x24 = true then (parapetref9_runeAt.j2 k x0 3 (Go.bits .and .i64 x5 15) 2048) else (if x3 ≥ 240 then (if x3 < 245 then (parapetref9_runeAt.j2 k x0 4 (Go.bits .and .i64 x5 7) 65536) else (some 0)) else (some 0))
end
def parapetref9_runeAt.f (k : Nat) (a0 : ByteArray) : Option (Int) := if 0 < (a0.size : Int) then (if (bt a0 0) < 128 then (some 1) else (if (bt a0 0) ≥ 194 then (parapetref9_runeAt.j0 k a0 (bt a0 0) (wrap64 (bt a0 0)) (decide ((bt a0 0) < 224))) else (parapetref9_runeAt.j0 k a0 (bt a0 0) (wrap64 (bt a0 0)) false))) else (none)
set_option maxHeartbeats 8000000 in
set_option maxRecDepth 100000 in
theorem parapetref9_runeAt.calls (k : Nat) (a0 : ByteArray) (r : Int) (w : World) (h : parapetref9_runeAt.f k a0 = some r) :
    Calls Tryz.prog 104 #[.string a0] w fun e w' => e = .returned (.int .i64 r) ∧ Drawn0 w w' := by
  have H : (if 0 < (a0.size : Int) then (if (bt a0 0) < 128 then (some 1) else (if (bt a0 0) ≥ 194 then (parapetref9_runeAt.j0 k a0 (bt a0 0) (wrap64 (bt a0 0)) (decide ((bt a0 0) < 224))) else (parapetref9_runeAt.j0 k a0 (bt a0 0) (wrap64 (bt a0 0)) false))) else (none)) = some r := h
  clear h
  by_cases c2 : 0 < (a0.size : Int)
  · rw [if_pos c2] at H
    have c2b0 : decide (0 < (a0.size : Int)) = true := decide_eq_true c2
    have c2b1 : decide (0 < a0.size) = true := decide_eq_true (by omega)
    clear c2
    have HC4 := Aside0.mk H
    clear H
    have p3 : 0 ≤ (0 : Int) := (by omega)
    have q3 : 0 < a0.size := (by have : (0 : Int) < (a0.size : Int) := of_decide_eq_true (by first | (with_reducible assumption) | assumption); omega)
    have hx3 : ∀ h : 0 < a0.size, ((a0[0]'h).toNat : Int) = bt a0 0 := bt_at a0 0
    clear p3
    have qi3 : (0 < (a0.size : Int)) = True := eq_true (of_decide_eq_true (by first | (with_reducible assumption) | assumption))
    replace q3 := eq_true q3
    go_enter Tryz.func104, Tryz.ntmps104
    go_upto_block 0 with (fail)
    go_cut [4, 5, 6] (fun v4 v5 v6 wc => ∃ (kq : Nat) (x4_3 : Int) (x5_3 : Int) (x6_3 : Int), v4 = .int .i64 x4_3 ∧ v5 = .int .i64 x5_3 ∧ v6 = .int .i64 x6_3 ∧ Aside0 (parapetref9_runeAt.j2 kq a0 x4_3 x5_3 x6_3 = some r) ∧ Aside0 (kq ≤ k) ∧ Drawn0 w wc)
    case first =>
      have H := HC4.out
      clear HC4
      by_cases c5 : (bt a0 0) < 128
      · rw [if_pos c5] at H
        have c5b0 : decide ((bt a0 0) < 128) = true := decide_eq_true c5
        clear c5
        (first | rw [c5b0] | (simp only [i64_w, i32_w]; rw [c5b0]) | skip)
        obtain rfl := Option.some.inj H
        go_wp2
        go_ret
        exact ⟨by first | rfl | (simp; done) | (simp [*]; done), by repeat (first | exact Drawn0.refl _ | apply Drawn0.step)⟩
      · rw [if_neg c5] at H
        have c5b0 : decide ((bt a0 0) < 128) = false := decide_eq_false c5
        clear c5
        (first | rw [c5b0] | (simp only [i64_w, i32_w]; rw [c5b0]) | skip)
        have HC6 := Aside0.mk H
        clear H
        go_upto_region 8 with (fail)
        go_cut [15] (fun v15 wc => ∃ (kq : Nat) (x15_5 : Bool), v15 = .bool x15_5 ∧ Aside0 (parapetref9_runeAt.j0 kq a0 (bt a0 0) (wrap64 (bt a0 0)) x15_5 = some r) ∧ Aside0 (kq ≤ k) ∧ Drawn0 w wc)
        case first =>
          have H := HC6.out
          clear HC6
          by_cases c7 : (bt a0 0) ≥ 194
          · rw [if_pos c7] at H
            have c7b0 : decide (194 ≤ (bt a0 0)) = true := decide_eq_true c7
            clear c7
            (first | rw [c7b0] | (simp only [i64_w, i32_w]; rw [c7b0]) | skip)
            have H' := Aside0.mk H
            clear H
            go_wp2
            go_meet
            case rel => exact ⟨_, (decide ((bt a0 0) < 224)), (by first | rfl | (simp; done) | (simp [*]; done)), H', ⟨by first | omega | exact Nat.le_refl _⟩, by repeat (first | exact Drawn0.refl _ | apply Drawn0.step)⟩
          · rw [if_neg c7] at H
            have c7b0 : decide (194 ≤ (bt a0 0)) = false := decide_eq_false c7
            clear c7
            (first | rw [c7b0] | (simp only [i64_w, i32_w]; rw [c7b0]) | skip)
            have H' := Aside0.mk H
            clear H
            go_wp2
            go_meet
            case rel => exact ⟨_, (false), (by first | rfl | (simp; done) | (simp [*]; done)), H', ⟨by first | omega | exact Nat.le_refl _⟩, by repeat (first | exact Drawn0.refl _ | apply Drawn0.step)⟩
        case rest =>
          clear HC6
          try clear c1
          try clear c2
          try clear c2b0
          try clear c2b1
          try clear p2
          try clear p3
          try clear q3
          try clear hx3
          try clear qi3
          try clear c5
          try clear c5b0
          try clear p6
          try clear c7
          try clear c7b0
          try clear p3
          try clear q3
          obtain ⟨kq, x15_5, rfl, HA, HJ5, ⟨mc5, rfl⟩⟩ := hcut
          cases kq with
          | zero => exact absurd HA.out (by simp [parapetref9_runeAt.j0])
          | succ kj5 =>
            have H := HA.out
            clear HA
            simp only [parapetref9_runeAt.j0] at H
            by_cases c8 : x15_5 = true
            · subst c8
              have H1 : (parapetref9_runeAt.j2 kj5 a0 2 (Go.bits .and .i64 (wrap64 (bt a0 0)) 31) 128) = some r := by rw [if_pos rfl] at H; exact H
              clear H
              have H := H1
              clear H1
              have H' := Aside0.mk H
              clear H
              go_wp2
              go_meet
              case rel => exact ⟨_, (2), (Go.bits .and .i64 (wrap64 (bt a0 0)) 31), (128), (by first | rfl | (simp; done) | (simp [*]; done)), (by first | rfl | (simp; done) | (simp [*]; done)), (by first | rfl | (simp; done) | (simp [*]; done)), H', ⟨by have := HJ5.out; first | omega | exact Nat.le_refl _⟩, by repeat (first | exact Drawn0.refl _ | apply Drawn0.step)⟩
            · replace c8 := Bool.eq_false_iff.mpr c8
              subst c8
              have H1 : (if (bt a0 0) ≥ 224 then (parapetref9_runeAt.j1 kj5 a0 (bt a0 0) (wrap64 (bt a0 0)) (decide ((bt a0 0) < 240))) else (parapetref9_runeAt.j1 kj5 a0 (bt a0 0) (wrap64 (bt a0 0)) false)) = some r := by rw [if_neg (show ¬ (false = true) by decide)] at H; exact H
              clear H
              have H := H1
              clear H1
              have HC9 := Aside0.mk H
              clear H
              go_upto_region 12 with (fail)
              go_cut [24] (fun v24 wc => ∃ (kq : Nat) (x24_8 : Bool), v24 = .bool x24_8 ∧ Aside0 (parapetref9_runeAt.j1 kq a0 (bt a0 0) (wrap64 (bt a0 0)) x24_8 = some r) ∧ Aside0 (kq ≤ kj5) ∧ Drawn0 w wc)
              case first =>
                have H := HC9.out
                clear HC9
                by_cases c10 : (bt a0 0) ≥ 224
                · rw [if_pos c10] at H
                  have c10b0 : decide (224 ≤ (bt a0 0)) = true := decide_eq_true c10
                  clear c10
                  (first | rw [c10b0] | (simp only [i64_w, i32_w]; rw [c10b0]) | skip)
                  have H' := Aside0.mk H
                  clear H
                  go_wp2
                  go_meet
                  case rel => exact ⟨_, (decide ((bt a0 0) < 240)), (by first | rfl | (simp; done) | (simp [*]; done)), H', ⟨by have := HJ5.out; first | omega | exact Nat.le_refl _⟩, by repeat (first | exact Drawn0.refl _ | apply Drawn0.step)⟩
                · rw [if_neg c10] at H
                  have c10b0 : decide (224 ≤ (bt a0 0)) = false := decide_eq_false c10
                  clear c10
                  (first | rw [c10b0] | (simp only [i64_w, i32_w]; rw [c10b0]) | skip)
                  have H' := Aside0.mk H
                  clear H
                  go_wp2
                  go_meet
                  case rel => exact ⟨_, (false), (by first | rfl | (simp; done) | (simp [*]; done)), H', ⟨by have := HJ5.out; first | omega | exact Nat.le_refl _⟩, by repeat (first | exact Drawn0.refl _ | apply Drawn0.step)⟩
              case rest =>
                clear HC9
                try clear c1
                try clear c2
                try clear c2b0
                try clear c2b1
                try clear p2
                try clear p3
                try clear q3
                try clear hx3
                try clear qi3
                try clear c5
                try clear c5b0
                try clear p6
                try clear c7
                try clear c7b0
                try clear c8
                try clear c10
                try clear c10b0
                try clear p2
                try clear p3
                try clear p6
                try clear q3
                obtain ⟨kq, x24_8, rfl, HA, HJ8, ⟨mc8, rfl⟩⟩ := hcut
                cases kq with
                | zero => exact absurd HA.out (by simp [parapetref9_runeAt.j1])
                | succ kj8 =>
                  have H := HA.out
                  clear HA
                  simp only [parapetref9_runeAt.j1] at H
                  by_cases c11 : x24_8 = true
                  · subst c11
                    have H1 : (parapetref9_runeAt.j2 kj8 a0 3 (Go.bits .and .i64 (wrap64 (bt a0 0)) 15) 2048) = some r := by rw [if_pos rfl] at H; exact H
                    clear H
                    have H := H1
                    clear H1
                    have H' := Aside0.mk H
                    clear H
                    go_wp2
                    go_meet
                    case rel => exact ⟨_, (3), (Go.bits .and .i64 (wrap64 (bt a0 0)) 15), (2048), (by first | rfl | (simp; done) | (simp [*]; done)), (by first | rfl | (simp; done) | (simp [*]; done)), (by first | rfl | (simp; done) | (simp [*]; done)), H', ⟨by have := HJ5.out; have := HJ8.out; first | omega | exact Nat.le_refl _⟩, by repeat (first | exact Drawn0.refl _ | apply Drawn0.step)⟩
                  · replace c11 := Bool.eq_false_iff.mpr c11
                    subst c11
                    have H1 : (if (bt a0 0) ≥ 240 then (if (bt a0 0) < 245 then (parapetref9_runeAt.j2 kj8 a0 4 (Go.bits .and .i64 (wrap64 (bt a0 0)) 7) 65536) else (some 0)) else (some 0)) = some r := by rw [if_neg (show ¬ (false = true) by decide)] at H; exact H
                    clear H
                    have H := H1
                    clear H1
                    by_cases c12 : (bt a0 0) ≥ 240
                    · rw [if_pos c12] at H
                      have c12b0 : decide (240 ≤ (bt a0 0)) = true := decide_eq_true c12
                      clear c12
                      by_cases c13 : (bt a0 0) < 245
                      · rw [if_pos c13] at H
                        have c13b0 : decide ((bt a0 0) < 245) = true := decide_eq_true c13
                        clear c13
                        have H' := Aside0.mk H
                        clear H
                        go_wp2
                        go_meet
                        case rel => exact ⟨_, (4), (Go.bits .and .i64 (wrap64 (bt a0 0)) 7), (65536), (by first | rfl | (simp; done) | (simp [*]; done)), (by first | rfl | (simp; done) | (simp [*]; done)), (by first | rfl | (simp; done) | (simp [*]; done)), H', ⟨by have := HJ5.out; have := HJ8.out; first | omega | exact Nat.le_refl _⟩, by repeat (first | exact Drawn0.refl _ | apply Drawn0.step)⟩
                      · rw [if_neg c13] at H
                        have c13b0 : decide ((bt a0 0) < 245) = false := decide_eq_false c13
                        clear c13
                        obtain rfl := Option.some.inj H
                        go_wp2
                        go_ret
                        exact ⟨by first | rfl | (simp; done) | (simp [*]; done), by repeat (first | exact Drawn0.refl _ | apply Drawn0.step)⟩
                    · rw [if_neg c12] at H
                      have c12b0 : decide (240 ≤ (bt a0 0)) = false := decide_eq_false c12
                      clear c12
                      obtain rfl := Option.some.inj H
                      go_wp2
                      go_ret
                      exact ⟨by first | rfl | (simp; done) | (simp [*]; done), by repeat (first | exact Drawn0.refl _ | apply Drawn0.step)⟩
    case rest =>
      clear HC4
      try clear c1
      try clear c2
      try clear c2b0
      try clear c2b1
      try clear p2
      try clear p3
      try clear q3
      try clear hx3
      try clear qi3
      try clear c5
      try clear c5b0
      try clear p6
      try clear c7
      try clear c7b0
      try clear c8
      try clear c10
      try clear c10b0
      try clear c11
      try clear c12
      try clear c12b0
      try clear c13
      try clear c13b0
      try clear p2
      try clear p3
      try clear p6
      try clear q3
      obtain ⟨kq, x4_3, x5_3, x6_3, rfl, rfl, rfl, HA, HJ3, ⟨mc3, rfl⟩⟩ := hcut
      cases kq with
      | zero => exact absurd HA.out (by simp [parapetref9_runeAt.j2])
      | succ kj3 =>
        have H := HA.out
        clear HA
        simp only [parapetref9_runeAt.j2] at H
        by_cases c14 : (a0.size : Int) < x4_3
        · rw [if_pos c14] at H
          have c14b0 : decide ((a0.size : Int) < x4_3) = true := decide_eq_true c14
          clear c14
          obtain rfl := Option.some.inj H
          go_wp2
          go_ret
          exact ⟨by first | rfl | (simp; done) | (simp [*]; done), by repeat (first | exact Drawn0.refl _ | apply Drawn0.step)⟩
        · rw [if_neg c14] at H
          have c14b0 : decide ((a0.size : Int) < x4_3) = false := decide_eq_false c14
          clear c14
          have H' := Aside0.mk H
          clear H
          go_wp2
          go_loopg [5, 7] kj3 (fun kq v5 v7 w' => ∃ (x5_2 : Int) (x7_2 : Int), v5 = .int .i64 x5_2 ∧ v7 = .int .i64 x7_2 ∧ Aside0 (parapetref9_runeAt.l0 kq a0 x4_3 x5_2 x6_3 x7_2 = some r) ∧ Aside0 (kq ≤ kj3) ∧ Drawn0 w w')
          case atStart => exact ⟨(x5_3), (1), (by first | rfl | (simp; done) | (simp [*]; done)), (by first | rfl | (simp; done) | (simp [*]; done)), H', ⟨Nat.le_refl _⟩, by repeat (first | exact Drawn0.refl _ | apply Drawn0.step)⟩
          case round =>
            clear H'
            try clear c1
            try clear c2
            try clear c2b0
            try clear c2b1
            try clear p2
            try clear c3
            try clear p3
            try clear q3
            try clear hx3
            try clear qi3
            try clear c5
            try clear c5b0
            try clear p6
            try clear c7
            try clear c7b0
            try clear c8
            try clear c10
            try clear c10b0
            try clear c11
            try clear c12
            try clear c12b0
            try clear c13
            try clear c13b0
            try clear c14
            try clear c14b0
            try clear p2
            try clear p3
            try clear p6
            try clear q3
            obtain ⟨x5_2, x7_2, rfl, rfl, HA, HK2, ⟨m2, rfl⟩⟩ := hrel
            cases gk with
            | zero => exact absurd HA.out (by simp [parapetref9_runeAt.l0])
            | succ k2 =>
              have H := HA.out
              clear HA
              simp only [parapetref9_runeAt.l0] at H
              by_cases c15 : x7_2 < x4_3
              · rw [if_pos c15] at H
                have c15b0 : decide (x7_2 < x4_3) = true := decide_eq_true c15
                clear c15
                by_cases c16 : 0 ≤ x7_2
                · rw [if_pos c16] at H
                  have c16b0 : decide (0 ≤ x7_2) = true := decide_eq_true c16
                  clear c16
                  by_cases c17 : x7_2 < (a0.size : Int)
                  · rw [if_pos c17] at H
                    have c17b0 : decide (x7_2 < (a0.size : Int)) = true := decide_eq_true c17
                    clear c17
                    by_cases c19 : (Go.bits .and .u8 (bt a0 x7_2) 192) = 128
                    · rw [if_pos c19] at H
                      have c19b0 : ((Go.bits .and .u8 (bt a0 x7_2) 192) == 128) = true := beq_iff_eq.mpr c19
                      have c19b1 : ((Go.bits .and .u8 (bt a0 x7_2) 192) != 128) = false := bne_eq_false_iff_eq.mpr c19
                      clear c19
                      have H' := Aside0.mk H
                      clear H
                      have p18 : 0 ≤ (x7_2 : Int) := of_decide_eq_true (by first | (with_reducible assumption) | assumption)
                      have q18 : x7_2 < (a0.size : Int) := of_decide_eq_true (by first | (with_reducible assumption) | assumption)
                      have hx18 := bt_at a0 x7_2
                      replace p18 := eq_true p18
                      replace q18 := eq_true q18
                      have p20 : 0 ≤ (x7_2 : Int) := of_decide_eq_true (by first | (with_reducible assumption) | assumption)
                      have q20 : x7_2 < (a0.size : Int) := of_decide_eq_true (by first | (with_reducible assumption) | assumption)
                      have hx20 := bt_at a0 x7_2
                      replace p20 := eq_true p20
                      replace q20 := eq_true q20
                      go_wp2
                      go_roundg k2
                      case measure => have := HJ3.out; have := HK2.out; omega
                      case rel => exact ⟨(Go.bits .or .i64 (wrap64 (x5_2 * 64)) (wrap64 (Go.bits .and .u8 (bt a0 x7_2) 63))), (wrap64 (x7_2 + 1)), (by first | rfl | (simp; done) | (simp [*]; done)), (by first | rfl | (simp; done) | (simp [*]; done)), H', ⟨by have := HJ3.out; have := HK2.out; omega⟩, by repeat (first | exact Drawn0.refl _ | apply Drawn0.step)⟩
                    · rw [if_neg c19] at H
                      have c19b0 : ((Go.bits .and .u8 (bt a0 x7_2) 192) == 128) = false := beq_eq_false_iff_ne.mpr c19
                      have c19b1 : ((Go.bits .and .u8 (bt a0 x7_2) 192) != 128) = true := bne_iff_ne.mpr c19
                      obtain rfl := Option.some.inj H
                      have p18 : 0 ≤ (x7_2 : Int) := of_decide_eq_true (by first | (with_reducible assumption) | assumption)
                      have q18 : x7_2 < (a0.size : Int) := of_decide_eq_true (by first | (with_reducible assumption) | assumption)
                      have hx18 := bt_at a0 x7_2
                      replace p18 := eq_true p18
                      replace q18 := eq_true q18
                      go_wp2
                      go_ret
                      exact ⟨by first | rfl | (simp; done) | (simp [*]; done), by repeat (first | exact Drawn0.refl _ | apply Drawn0.step)⟩
                  · rw [if_neg c17] at H
                    exact absurd H (by simp)
                · rw [if_neg c16] at H
                  exact absurd H (by simp)
              · rw [if_neg c15] at H
                have c15b0 : decide (x7_2 < x4_3) = false := decide_eq_false c15
                clear c15
                by_cases c21 : x5_2 < x6_3
                · rw [if_pos c21] at H
                  have c21b0 : decide (x5_2 < x6_3) = true := decide_eq_true c21
                  clear c21
                  obtain rfl := Option.some.inj H
                  go_wp2
                  go_ret
                  exact ⟨by first | rfl | (simp; done) | (simp [*]; done), by repeat (first | exact Drawn0.refl _ | apply Drawn0.step)⟩
                · rw [if_neg c21] at H
                  have c21b0 : decide (x5_2 < x6_3) = false := decide_eq_false c21
                  clear c21
                  by_cases c22 : x5_2 > 1114111
                  · rw [if_pos c22] at H
                    have c22b0 : decide (1114111 < x5_2) = true := decide_eq_true c22
                    clear c22
                    obtain rfl := Option.some.inj H
                    go_wp2
                    go_ret
                    exact ⟨by first | rfl | (simp; done) | (simp [*]; done), by repeat (first | exact Drawn0.refl _ | apply Drawn0.step)⟩
                  · rw [if_neg c22] at H
                    have c22b0 : decide (1114111 < x5_2) = false := decide_eq_false c22
                    clear c22
                    by_cases c23 : x5_2 ≥ 55296
                    · rw [if_pos c23] at H
                      have c23b0 : decide (55296 ≤ x5_2) = true := decide_eq_true c23
                      clear c23
                      by_cases c24 : x5_2 ≤ 57343
                      · rw [if_pos c24] at H
                        have c24b0 : decide (x5_2 ≤ 57343) = true := decide_eq_true c24
                        clear c24
                        obtain rfl := Option.some.inj H
                        go_wp2
                        go_ret
                        exact ⟨by first | rfl | (simp; done) | (simp [*]; done), by repeat (first | exact Drawn0.refl _ | apply Drawn0.step)⟩
                      · rw [if_neg c24] at H
                        have c24b0 : decide (x5_2 ≤ 57343) = false := decide_eq_false c24
                        clear c24
                        obtain rfl := Option.some.inj H
                        go_wp2
                        go_ret
                        exact ⟨by first | rfl | (simp; done) | (simp [*]; done), by repeat (first | exact Drawn0.refl _ | apply Drawn0.step)⟩
                    · rw [if_neg c23] at H
                      have c23b0 : decide (55296 ≤ x5_2) = false := decide_eq_false c23
                      clear c23
                      obtain rfl := Option.some.inj H
                      go_wp2
                      go_ret
                      exact ⟨by first | rfl | (simp; done) | (simp [*]; done), by repeat (first | exact Drawn0.refl _ | apply Drawn0.step)⟩
  · rw [if_neg c2] at H
    exact absurd H (by simp)
end Go.Proofs.YtcmcopieagpppaaGreatDoor.P
namespace Go.Proofs.YtcmcopieagpppaaGreatDoor.P
open Go.RowKit Go.Proofs.YtcmcopieagpppaaGreatDoorW.PrintWords Go.Proofs.YtcmcopieagpppaaGreatDoorW.PrintLast Go.Proofs.YtcmcopieagpppaaGreatDoorW.PrintMore
attribute [local go_sem] max2_int min2_int max_two min_two max_three min_three max_four min_four
set_option linter.unusedVariables false
set_option linter.unusedSimpArgs false
def parapetref9_Broken.l0 : Nat → ByteArray → Int → Option (Int)
  | 0, _, _ => none
  | k + 1, x0, x3 => if x3 < (x0.size : Int) then (if 0 ≤ x3 then (if x3 ≤ (x0.size : Int) then ((parapetref9_runeAt.f k (x0.extract (x3 : Int).toNat x0.size)).bind fun t116 => (if t116 = 0 then (some x3) else (parapetref9_Broken.l0 k x0 (wrap64 (x3 + t116))))) else (none)) else (none)) else (some (x0.size : Int))
def parapetref9_Broken.f (k : Nat) (a0 : ByteArray) : Option (Int) := parapetref9_Broken.l0 k a0 0
set_option maxHeartbeats 8000000 in
set_option maxRecDepth 100000 in
theorem parapetref9_Broken.calls (k : Nat) (a0 : ByteArray) (r : Int) (w : World) (h : parapetref9_Broken.f k a0 = some r) :
    Calls Tryz.prog 71 #[.string a0] w fun e w' => e = .returned (.int .i64 r) ∧ Drawn0 w w' := by
  have H : (parapetref9_Broken.l0 k a0 0) = some r := h
  clear h
  have H' := Aside0.mk H
  clear H
  go_enter Tryz.func71, Tryz.ntmps71
  go_wp2
  go_loopg [3] k (fun kq v3 w' => ∃ (x3_1 : Int), v3 = .int .i64 x3_1 ∧ Aside0 (parapetref9_Broken.l0 kq a0 x3_1 = some r) ∧ Aside0 (kq ≤ k) ∧ Drawn0 w w')
  case atStart => exact ⟨(0), (by first | rfl | (simp; done) | (simp [*]; done)), H', ⟨Nat.le_refl _⟩, by repeat (first | exact Drawn0.refl _ | apply Drawn0.step)⟩
  case round =>
    clear H'
    obtain ⟨x3_1, rfl, HA, HK1, ⟨m1, rfl⟩⟩ := hrel
    cases gk with
    | zero => exact absurd HA.out (by simp [parapetref9_Broken.l0])
    | succ k1 =>
      have H := HA.out
      clear HA
      simp only [parapetref9_Broken.l0] at H
      by_cases c2 : x3_1 < (a0.size : Int)
      · rw [if_pos c2] at H
        have c2b0 : decide (x3_1 < (a0.size : Int)) = true := decide_eq_true c2
        clear c2
        by_cases c3 : 0 ≤ x3_1
        · rw [if_pos c3] at H
          have c3b0 := eq_true c3
          have c3b1 : decide (0 ≤ x3_1) = true := decide_eq_true c3
          clear c3
          by_cases c4 : x3_1 ≤ (a0.size : Int)
          · rw [if_pos c4] at H
            have c4b0 := eq_true c4
            have c4b1 : decide (x3_1 ≤ (a0.size : Int)) = true := decide_eq_true c4
            clear c4
            replace H := Option.bind_eq_some_iff.mp H
            obtain ⟨t116, A50, H⟩ := H
            replace H : (if t116 = 0 then (some x3_1) else (parapetref9_Broken.l0 k1 a0 (wrap64 (x3_1 + t116)))) = some r := H
            have A5 := Aside0.mk A50
            clear A50
            by_cases c6 : t116 = 0
            · rw [if_pos c6] at H
              have c6b0 : (t116 == 0) = true := beq_iff_eq.mpr c6
              have c6b1 : (t116 != 0) = false := bne_eq_false_iff_eq.mpr c6
              clear c6
              obtain rfl := Option.some.inj H
              go_wp2_with (first | ((with_reducible refine gate_callee (f := 104) rfl ?_); refine goesL_ (some 12) rfl rfl Tryz.func104 (by kernel_rfl) rfl #[.string (a0.extract (x3_1 : Int).toNat a0.size)] rfl (by (try simp only [List.map_toArray, List.map_cons, List.map_nil]); first | done | rfl | (simp only [List.length_drop, List.length_take]; rfl)) ?_; (with_reducible refine (parapetref9_runeAt.calls k1 (a0.extract (x3_1 : Int).toNat a0.size) t116 _ A5.out).mono ?_); rintro e w' ⟨rfl, ⟨nd, rfl⟩⟩; refine ⟨_, rfl, ?_⟩))
              go_ret
              exact ⟨by first | rfl | (simp; done) | (simp [*]; done), by repeat (first | exact Drawn0.refl _ | apply Drawn0.step)⟩
            · rw [if_neg c6] at H
              have c6b0 : (t116 == 0) = false := beq_eq_false_iff_ne.mpr c6
              have c6b1 : (t116 != 0) = true := bne_iff_ne.mpr c6
              have H' := Aside0.mk H
              clear H
              go_wp2_with (first | ((with_reducible refine gate_callee (f := 104) rfl ?_); refine goesL_ (some 12) rfl rfl Tryz.func104 (by kernel_rfl) rfl #[.string (a0.extract (x3_1 : Int).toNat a0.size)] rfl (by (try simp only [List.map_toArray, List.map_cons, List.map_nil]); first | done | rfl | (simp only [List.length_drop, List.length_take]; rfl)) ?_; (with_reducible refine (parapetref9_runeAt.calls k1 (a0.extract (x3_1 : Int).toNat a0.size) t116 _ A5.out).mono ?_); rintro e w' ⟨rfl, ⟨nd, rfl⟩⟩; refine ⟨_, rfl, ?_⟩))
              go_roundg k1
              case measure => have := HK1.out; omega
              case rel => exact ⟨(wrap64 (x3_1 + t116)), (by first | rfl | (simp; done) | (simp [*]; done)), H', ⟨by have := HK1.out; omega⟩, by repeat (first | exact Drawn0.refl _ | apply Drawn0.step)⟩
          · rw [if_neg c4] at H
            exact absurd H (by simp)
        · rw [if_neg c3] at H
          exact absurd H (by simp)
      · rw [if_neg c2] at H
        have c2b0 : decide (x3_1 < (a0.size : Int)) = false := decide_eq_false c2
        clear c2
        obtain rfl := Option.some.inj H
        go_wp2
        go_ret
        exact ⟨by first | rfl | (simp; done) | (simp [*]; done), by repeat (first | exact Drawn0.refl _ | apply Drawn0.step)⟩
end Go.Proofs.YtcmcopieagpppaaGreatDoor.P
namespace Go.Proofs.YtcmcopieagpppaaGreatDoor.P
open Go.RowKit Go.Proofs.YtcmcopieagpppaaGreatDoorW.PrintWords Go.Proofs.YtcmcopieagpppaaGreatDoorW.PrintLast Go.Proofs.YtcmcopieagpppaaGreatDoorW.PrintMore
attribute [local go_sem] max2_int min2_int max_two min_two max_three min_three max_four min_four
set_option linter.unusedVariables false
set_option linter.unusedSimpArgs false
def parapetref9_UTF8.f (k : Nat) (a0 : ByteArray) : Option (Bool) := (parapetref9_Broken.f k a0).bind fun t117 => (some (t117 == (a0.size : Int)))
set_option maxHeartbeats 8000000 in
set_option maxRecDepth 100000 in
theorem parapetref9_UTF8.calls (k : Nat) (a0 : ByteArray) (r : Bool) (w : World) (h : parapetref9_UTF8.f k a0 = some r) :
    Calls Tryz.prog 32 #[.string a0] w fun e w' => e = .returned (.bool r) ∧ Drawn0 w w' := by
  have H : ((parapetref9_Broken.f k a0).bind fun t117 => (some (t117 == (a0.size : Int)))) = some r := h
  clear h
  replace H := Option.bind_eq_some_iff.mp H
  obtain ⟨t117, A20, H⟩ := H
  replace H : (some (t117 == (a0.size : Int))) = some r := H
  have A2 := Aside0.mk A20
  clear A20
  obtain rfl := Option.some.inj H
  go_enter Tryz.func32, Tryz.ntmps32
  go_wp2_with (first | ((with_reducible refine gate_callee (f := 71) rfl ?_); refine goesL_ (some 4) rfl rfl Tryz.func71 (by kernel_rfl) rfl #[.string a0] rfl (by (try simp only [List.map_toArray, List.map_cons, List.map_nil]); first | done | rfl | (simp only [List.length_drop, List.length_take]; rfl)) ?_; (with_reducible refine (parapetref9_Broken.calls k a0 t117 _ A2.out).mono ?_); rintro e w' ⟨rfl, ⟨nd, rfl⟩⟩; refine ⟨_, rfl, ?_⟩))
  go_ret
  exact ⟨by first | rfl | (simp; done) | (simp [*]; done), by repeat (first | exact Drawn0.refl _ | apply Drawn0.step)⟩
end Go.Proofs.YtcmcopieagpppaaGreatDoor.P
namespace Go.Proofs.YtcmcopieagpppaaGreatDoor.P
open Go.RowKit Go.Proofs.YtcmcopieagpppaaGreatDoorW.PrintWords Go.Proofs.YtcmcopieagpppaaGreatDoorW.PrintLast Go.Proofs.YtcmcopieagpppaaGreatDoorW.PrintMore
set_option linter.unusedVariables false
set_option linter.unusedSimpArgs false
theorem and192 : ∀ n : Nat, n < 256 → (Go.bits .and .u8 (n : Int) 192 = 128 ↔ n / 64 = 2) := by decide +kernel
theorem and63 : ∀ n : Nat, n < 256 → Go.bits .and .u8 (n : Int) 63 = ((n % 64 : Nat) : Int) := by decide +kernel
theorem and31 : ∀ n : Nat, n < 256 → Go.bits .and .i64 (n : Int) 31 = ((n % 32 : Nat) : Int) := by decide +kernel
theorem and15' : ∀ n : Nat, n < 256 → Go.bits .and .i64 (n : Int) 15 = ((n % 16 : Nat) : Int) := by decide +kernel
theorem and7 : ∀ n : Nat, n < 256 → Go.bits .and .i64 (n : Int) 7 = ((n % 8 : Nat) : Int) := by decide +kernel
theorem or_put (u c : Nat) (hu : u < 1000000) (hc : c < 64) : Go.bits .or .i64 ((u * 64 : Nat) : Int) (c : Int) = ((u * 64 + c : Nat) : Int) := by
  have e1 : ∀ a : Nat, a < 18446744073709551616 → (BitVec.ofInt 64 (a : Int)).toNat = a := fun a ha => by
    rw [BitVec.ofInt_natCast, BitVec.toNat_ofNat]; exact Nat.mod_eq_of_lt (by omega)
  have h2 : u * 64 ||| c = u * 64 + c := by
    have := Nat.two_pow_add_eq_or_of_lt (i := 6) (b := c) (by omega) u
    rw [Nat.mul_comm u 64]
    exact this.symm
  show IntKind.i64.wrap ((BitVec.ofInt 64 ((u * 64 : Nat) : Int) ||| BitVec.ofInt 64 (c : Int)).toNat : Int) = _
  rw [BitVec.toNat_or, e1 _ (by omega), e1 _ (by omega), h2]
  rw [IntKind.wrap_i64]
  first | omega | (unfold wrap64; omega)
def runeR (n b0 b1 b2 b3 : Nat) : Nat :=
  if b0 < 128 then 1
  else if 194 ≤ b0 ∧ b0 < 224 then (if n < 2 ∨ b1 / 64 ≠ 2 then 0 else 2)
  else if 224 ≤ b0 ∧ b0 < 240 then (if n < 3 ∨ b1 / 64 ≠ 2 ∨ b2 / 64 ≠ 2 then 0 else
    let u := (b0 % 16 * 64 + b1 % 64) * 64 + b2 % 64
    if u < 2048 ∨ (55296 ≤ u ∧ u ≤ 57343) then 0 else 3)
  else if 240 ≤ b0 ∧ b0 < 245 then (if n < 4 ∨ b1 / 64 ≠ 2 ∨ b2 / 64 ≠ 2 ∨ b3 / 64 ≠ 2 then 0 else
    let u := ((b0 % 8 * 64 + b1 % 64) * 64 + b2 % 64) * 64 + b3 % 64
    if u < 65536 ∨ 1114111 < u then 0 else 4)
  else 0
theorem rune_step (l : List UInt8) (n u least i k : Nat) (hi : i < n) (hn : n ≤ l.length) (hn4 : n ≤ 4) (hu : u < 1000000) :
    parapetref9_runeAt.l0 (k + 1) (ba l) (n : Int) (u : Int) (least : Int) (i : Int) =
      if (l.getD i 0).toNat / 64 = 2 then parapetref9_runeAt.l0 k (ba l) (n : Int) ((u * 64 + (l.getD i 0).toNat % 64 : Nat) : Int) (least : Int) ((i + 1 : Nat) : Int) else some 0 := by
  have hi' : i < l.length := by omega
  have e : l.getD i 0 = l[i] := by simp [List.getD_eq_getElem?_getD, List.getElem?_eq_getElem hi']
  have h256 := l[i].toNat_lt
  simp only [parapetref9_runeAt.l0]
  rw [if_pos (by omega), if_pos (by omega), if_pos (by rw [ba_size]; omega), bt_ba l i hi', and63 _ (by omega), wrap_up (by omega),
    show wrap64 ((u : Int) * 64) = ((u * 64 : Nat) : Int) from by unfold wrap64; omega,
    show wrap64 ((l[i].toNat % 64 : Nat) : Int) = ((l[i].toNat % 64 : Nat) : Int) from by unfold wrap64; omega,
    or_put _ _ hu (by omega), e]
  by_cases h : l[i].toNat / 64 = 2
  · rw [if_pos ((and192 _ (by omega)).2 h), if_pos h]
  · rw [if_neg (fun h' => h ((and192 _ (by omega)).1 h')), if_neg h]
theorem rune_end (l : List UInt8) (n u least k : Nat) : parapetref9_runeAt.l0 (k + 1) (ba l) (n : Int) (u : Int) (least : Int) (n : Int) =
    some ((if u < least ∨ 1114111 < u ∨ (55296 ≤ u ∧ u ≤ 57343) then 0 else n : Nat) : Int) := by
  simp only [parapetref9_runeAt.l0]
  rw [if_neg (by omega)]
  by_cases h1 : u < least
  · rw [if_pos (by omega), if_pos (.inl h1)]; rfl
  rw [if_neg (by omega)]
  by_cases h2 : 1114111 < u
  · rw [if_pos (by omega), if_pos (.inr (.inl h2))]; rfl
  rw [if_neg (by omega)]
  by_cases h3 : 55296 ≤ u
  · rw [if_pos (by omega)]
    by_cases h4 : u ≤ 57343
    · rw [if_pos (by omega), if_pos (.inr (.inr ⟨h3, h4⟩))]; rfl
    · rw [if_neg (by omega), if_neg (by omega)]
  · rw [if_neg (by omega), if_neg (by omega)]
set_option maxRecDepth 100000 in
theorem rune_eq (l : List UInt8) (hne : l ≠ []) (k : Nat) (hk : 12 < k) :
    parapetref9_runeAt.f k (ba l) = some ((runeR l.length (l.getD 0 0).toNat (l.getD 1 0).toNat (l.getD 2 0).toNat (l.getD 3 0).toNat : Nat) : Int) := by
  obtain ⟨k, rfl⟩ : ∃ m, k = m + 12 := ⟨k - 12, by omega⟩
  have hp := List.length_pos_iff.2 hne
  have e0 : bt (ba l) 0 = ((l.getD 0 0).toNat : Int) := by
    have := bt_ba l 0 hp
    rw [show ((0 : Nat) : Int) = 0 from rfl] at this
    rw [this]
    simp [List.getD_eq_getElem?_getD, List.getElem?_eq_getElem hp]
  have h256 := (l.getD 0 0).toNat_lt
  have r1 := fun (n u least i k : Nat) => rune_step l n u least i k
  unfold parapetref9_runeAt.f
  rw [if_pos (by rw [ba_size]; omega), e0]
  generalize hb0 : (l.getD 0 0).toNat = b0 at *
  generalize hb1 : (l.getD 1 0).toNat = b1
  generalize hb2 : (l.getD 2 0).toNat = b2
  generalize hb3 : (l.getD 3 0).toNat = b3
  have q1 : b1 % 64 < 64 := Nat.mod_lt _ (by omega)
  have q2 : b2 % 64 < 64 := Nat.mod_lt _ (by omega)
  have q3 : b3 % 64 < 64 := Nat.mod_lt _ (by omega)
  unfold runeR
  by_cases c1 : b0 < 128
  · rw [if_pos (by omega), if_pos c1]; rfl
  rw [if_neg (by omega), if_neg c1, show wrap64 (b0 : Int) = (b0 : Int) from by unfold wrap64; omega]
  by_cases c2 : 194 ≤ b0 ∧ b0 < 224
  · rw [if_pos (by omega), if_pos c2, show decide ((b0 : Int) < 224) = true from by simp; omega]
    simp only [parapetref9_runeAt.j0, parapetref9_runeAt.j2, if_true]
    rw [and31 _ (by omega)]
    by_cases d1 : l.length < 2
    · rw [if_pos (by rw [ba_size]; omega), if_pos (.inl d1)]; rfl
    · rw [if_neg (by rw [ba_size]; omega)]
      have := r1 2 (b0 % 32) 128 1 (k + 9) (by omega) (by omega) (by omega) (by omega)
      rw [hb1] at this
      refine this.trans ?_
      by_cases d2 : b1 / 64 = 2
      · rw [if_pos d2, rune_end l 2 _ 128 (k + 8), if_neg (show ¬ (l.length < 2 ∨ b1 / 64 ≠ 2) from by omega), if_neg (by omega)]
      · rw [if_neg d2, if_pos (.inr d2)]; rfl
  rw [if_neg c2]
  have hj0 : (if (b0 : Int) ≥ 194 then parapetref9_runeAt.j0 (k + 12) (ba l) (b0 : Int) (b0 : Int) (decide ((b0 : Int) < 224)) else parapetref9_runeAt.j0 (k + 12) (ba l) (b0 : Int) (b0 : Int) false) = parapetref9_runeAt.j0 (k + 12) (ba l) (b0 : Int) (b0 : Int) false := by
    by_cases h : (b0 : Int) ≥ 194
    · rw [if_pos h, show decide ((b0 : Int) < 224) = false from by simp; omega]
    · rw [if_neg h]
  rw [hj0]
  simp only [parapetref9_runeAt.j0]
  rw [if_neg (by simp)]
  by_cases c3 : 224 ≤ b0 ∧ b0 < 240
  · rw [if_pos (by omega), if_pos c3, show decide ((b0 : Int) < 240) = true from by simp; omega]
    simp only [parapetref9_runeAt.j1, parapetref9_runeAt.j2, if_true]
    rw [and15' _ (by omega)]
    by_cases d1 : l.length < 3
    · rw [if_pos (by rw [ba_size]; omega), if_pos (.inl d1)]; rfl
    · rw [if_neg (by rw [ba_size]; omega)]
      have s1 := r1 3 (b0 % 16) 2048 1 (k + 8) (by omega) (by omega) (by omega) (by omega)
      rw [hb1] at s1
      refine s1.trans ?_
      by_cases d2 : b1 / 64 = 2
      · rw [if_pos d2]
        have s2 := r1 3 (b0 % 16 * 64 + b1 % 64) 2048 2 (k + 7) (by omega) (by omega) (by omega) (by omega)
        rw [hb2] at s2
        refine s2.trans ?_
        by_cases d3 : b2 / 64 = 2
        · rw [if_pos d3, rune_end l 3 _ 2048 (k + 6), if_neg (show ¬ (l.length < 3 ∨ b1 / 64 ≠ 2 ∨ b2 / 64 ≠ 2) from by omega)]
          by_cases d4 : (b0 % 16 * 64 + b1 % 64) * 64 + b2 % 64 < 2048 ∨ (55296 ≤ (b0 % 16 * 64 + b1 % 64) * 64 + b2 % 64 ∧ (b0 % 16 * 64 + b1 % 64) * 64 + b2 % 64 ≤ 57343)
          · rw [if_pos d4, if_pos (by omega)]
          · rw [if_neg d4, if_neg (by omega)]
        · rw [if_neg d3, if_pos (.inr (.inr d3))]; rfl
      · rw [if_neg d2, if_pos (.inr (.inl d2))]; rfl
  rw [if_neg c3]
  have hj1 : (if (b0 : Int) ≥ 224 then parapetref9_runeAt.j1 (k + 11) (ba l) (b0 : Int) (b0 : Int) (decide ((b0 : Int) < 240)) else parapetref9_runeAt.j1 (k + 11) (ba l) (b0 : Int) (b0 : Int) false) = parapetref9_runeAt.j1 (k + 11) (ba l) (b0 : Int) (b0 : Int) false := by
    by_cases h : (b0 : Int) ≥ 224
    · rw [if_pos h, show decide ((b0 : Int) < 240) = false from by simp; omega]
    · rw [if_neg h]
  rw [hj1]
  simp only [parapetref9_runeAt.j1]
  rw [if_neg (by simp)]
  by_cases c4 : 240 ≤ b0 ∧ b0 < 245
  · rw [if_pos (by omega), if_pos (by omega), if_pos c4]
    simp only [parapetref9_runeAt.j2]
    rw [and7 _ (by omega)]
    by_cases d1 : l.length < 4
    · rw [if_pos (by rw [ba_size]; omega), if_pos (.inl d1)]; rfl
    · rw [if_neg (by rw [ba_size]; omega)]
      have s1 := r1 4 (b0 % 8) 65536 1 (k + 8) (by omega) (by omega) (by omega) (by omega)
      rw [hb1] at s1
      refine s1.trans ?_
      by_cases d2 : b1 / 64 = 2
      · rw [if_pos d2]
        have s2 := r1 4 (b0 % 8 * 64 + b1 % 64) 65536 2 (k + 7) (by omega) (by omega) (by omega) (by omega)
        rw [hb2] at s2
        refine s2.trans ?_
        by_cases d3 : b2 / 64 = 2
        · rw [if_pos d3]
          have s3 := r1 4 ((b0 % 8 * 64 + b1 % 64) * 64 + b2 % 64) 65536 3 (k + 6) (by omega) (by omega) (by omega) (by omega)
          rw [hb3] at s3
          refine s3.trans ?_
          by_cases d4 : b3 / 64 = 2
          · rw [if_pos d4, rune_end l 4 _ 65536 (k + 5), if_neg (show ¬ (l.length < 4 ∨ b1 / 64 ≠ 2 ∨ b2 / 64 ≠ 2 ∨ b3 / 64 ≠ 2) from by omega)]
            by_cases d5 : ((b0 % 8 * 64 + b1 % 64) * 64 + b2 % 64) * 64 + b3 % 64 < 65536 ∨ 1114111 < ((b0 % 8 * 64 + b1 % 64) * 64 + b2 % 64) * 64 + b3 % 64
            · rw [if_pos d5, if_pos (by omega)]
            · rw [if_neg d5, if_neg (by omega)]
          · rw [if_neg d4, if_pos (.inr (.inr (.inr d4)))]; rfl
        · rw [if_neg d3, if_pos (.inr (.inr (.inl d3)))]; rfl
      · rw [if_neg d2, if_pos (.inr (.inl d2))]; rfl
  · rw [if_neg c4]
    by_cases h : (b0 : Int) ≥ 240
    · rw [if_pos h, if_neg (by omega)]; rfl
    · rw [if_neg h]; rfl
set_option maxRecDepth 100000 in
set_option maxHeartbeats 4000000 in
theorem runeR_decode (n b0 b1 b2 b3 : Nat) (hn : 1 ≤ n) (h0 : b0 < 256) (h1 : b1 < 256) (h2 : b2 < 256) (h3 : b3 < 256) :
    runeR n b0 b1 b2 b3 = if (Lib.decodeN n b0 b1 b2 b3).1 = 65533 ∧ (Lib.decodeN n b0 b1 b2 b3).2 = 1 then 0 else (Lib.decodeN n b0 b1 b2 b3).2 := by
  unfold runeR Lib.decodeN
  dsimp only
  repeat' split
  all_goals first | rfl | (exfalso; omega) | omega
theorem runeR_le (n b0 b1 b2 b3 : Nat) (hn : 1 ≤ n) : runeR n b0 b1 b2 b3 ≤ n := by
  unfold runeR
  dsimp only
  repeat' split
  all_goals omega
theorem broken_loop (l : List UInt8) (hl : l.length ≤ 4611686018427387904) : ∀ (d i k : Nat), i + d = l.length → d + 14 < k →
    ∃ r : Nat, parapetref9_Broken.l0 k (ba l) (i : Int) = some (r : Int) ∧ r ≤ l.length ∧ (r = l.length ↔ Lib.validD (l.drop i) = true) := by
  intro d
  induction d using Nat.strongRecOn with
  | ind d ih =>
    intro i k hi hk
    obtain ⟨k, rfl⟩ : ∃ m, k = m + 1 := ⟨k - 1, by omega⟩
    simp only [parapetref9_Broken.l0]
    by_cases hd : d = 0
    · subst hd
      rw [if_neg (by rw [ba_size]; omega), List.drop_eq_nil_of_le (by omega)]
      exact ⟨l.length, rfl, Nat.le_refl _, by simp [Lib.validD_nil]⟩
    · have hne : l.drop i ≠ [] := by
        intro e
        have := congrArg List.length e
        rw [List.length_drop] at this
        simp at this
        omega
      rw [if_pos (by rw [ba_size]; omega), if_pos (by omega), if_pos (by rw [ba_size]; omega), Int.toNat_natCast, ba_size, ba_extract, List.take_length, rune_eq _ hne k (by omega)]
      simp only [Option.bind_some]
      have hN := Lib.decodeL_N (l.drop i)
      have h256 := fun j : Nat => ((l.drop i).getD j 0).toNat_lt
      have hlen : 1 ≤ (l.drop i).length := by rw [List.length_drop]; omega
      have hR := runeR_decode (l.drop i).length ((l.drop i).getD 0 0).toNat ((l.drop i).getD 1 0).toNat ((l.drop i).getD 2 0).toNat ((l.drop i).getD 3 0).toNat hlen (h256 0) (h256 1) (h256 2) (h256 3)
      have hle := runeR_le (l.drop i).length ((l.drop i).getD 0 0).toNat ((l.drop i).getD 1 0).toNat ((l.drop i).getD 2 0).toNat ((l.drop i).getD 3 0).toNat hlen
      rw [← hN] at hR
      have hw := Lib.decodeL_width (l.drop i)
      rw [hR] at hle ⊢
      rw [Lib.validD_step _ hne]
      rw [List.length_drop] at hle
      by_cases hb : (Lib.decodeL (l.drop i)).1 = 65533 ∧ (Lib.decodeL (l.drop i)).2 = 1
      · rw [if_pos hb, if_pos hb, if_pos (by rfl)]
        exact ⟨i, rfl, by omega, by simp; omega⟩
      · rw [if_neg hb] at hle
        rw [if_neg hb, if_neg hb, if_neg (by omega), show wrap64 ((i : Int) + ((Lib.decodeL (l.drop i)).2 : Int)) = ((i + (Lib.decodeL (l.drop i)).2 : Nat) : Int) from by unfold wrap64; omega, List.drop_drop]
        exact ih (d - (Lib.decodeL (l.drop i)).2) (by omega) (i + (Lib.decodeL (l.drop i)).2) k (by omega) (by omega)
theorem utf8_eq (l : List UInt8) (hl : l.length ≤ 4611686018427387904) (k : Nat) (hk : l.length + 14 < k) : parapetref9_UTF8.f k (ba l) = some (Lib.validD l) := by
  obtain ⟨r, hr, hle, hiff⟩ := broken_loop l hl l.length 0 k (by omega) (by omega)
  unfold parapetref9_UTF8.f parapetref9_Broken.f
  rw [show ((0 : Nat) : Int) = 0 from rfl] at hr
  rw [hr]
  simp only [Option.bind_some]
  rw [List.drop_zero] at hiff
  congr 1
  rw [ba_size]
  cases h : Lib.validD l with
  | true => rw [hiff.2 h]; simp
  | false =>
    rw [beq_eq_false_iff_ne]
    intro e
    have := hiff.1 (by omega)
    rw [h] at this
    cases this
end Go.Proofs.YtcmcopieagpppaaGreatDoor.P
namespace Go.Proofs.YtcmcopieagpppaaGreatDoor.P
open Go.RowKit Go.Proofs.YtcmcopieagpppaaGreatDoorW.PrintWords Go.Proofs.YtcmcopieagpppaaGreatDoorW.PrintLast Go.Proofs.YtcmcopieagpppaaGreatDoorW.PrintMore
attribute [local go_sem] max2_int min2_int max_two min_two max_three min_three max_four min_four
set_option linter.unusedVariables false
set_option linter.unusedSimpArgs false
mutual
def parapetref9_Default.j0 : Nat → ByteArray → Bool → Option (Int × Bool)
  | 0, _, _ => none
  | k + 1, x4, x5 => if x5 = true then (some (80, true)) else (if x4.toList = ([104, 116, 116, 112, 115] : List UInt8) then (parapetref9_Default.j1 k x4 (x4.toList == ([104, 116, 116, 112, 115] : List UInt8))) else (parapetref9_Default.j1 k x4 (x4.toList == ([119, 115, 115] : List UInt8))))
def parapetref9_Default.j1 : Nat → ByteArray → Bool → Option (Int × Bool)
  | 0, _, _ => none
  | k + 1, x4, x8 => if x8 = true then (some (443, true)) else (if x4.toList = ([102, 116, 112] : List UInt8) then (some (21, true)) else (some (0, false)))
end
def parapetref9_Default.f (k : Nat) (a0 : ByteArray) : Option (Int × Bool) := if a0.toList = ([104, 116, 116, 112] : List UInt8) then (parapetref9_Default.j0 k a0 (a0.toList == ([104, 116, 116, 112] : List UInt8))) else (parapetref9_Default.j0 k a0 (a0.toList == ([119, 115] : List UInt8)))
set_option maxHeartbeats 8000000 in
set_option maxRecDepth 100000 in
theorem parapetref9_Default.calls (k : Nat) (a0 : ByteArray) (r1 : Int) (r2 : Bool) (w : World) (h : parapetref9_Default.f k a0 = some (r1, r2)) :
    Calls Tryz.prog 26 #[.string a0] w fun e w' => e = .returned (.tuple #[.int .i64 r1, .bool r2]) ∧ Drawn0 w w' := by
  have H : (if a0.toList = ([104, 116, 116, 112] : List UInt8) then (parapetref9_Default.j0 k a0 (a0.toList == ([104, 116, 116, 112] : List UInt8))) else (parapetref9_Default.j0 k a0 (a0.toList == ([119, 115] : List UInt8)))) = some (r1, r2) := h
  clear h
  have HC2 := Aside0.mk H
  clear H
  go_enter Tryz.func26, Tryz.ntmps26
  go_upto_if 5 with (fail)
  go_cut [5] (fun v5 wc => ∃ (kq : Nat) (x5_1 : Bool), v5 = .bool x5_1 ∧ Aside0 (parapetref9_Default.j0 kq a0 x5_1 = some (r1, r2)) ∧ Aside0 (kq ≤ k) ∧ Drawn0 w wc)
  case first =>
    have H := HC2.out
    clear HC2
    by_cases c3 : a0.toList = ([104, 116, 116, 112] : List UInt8)
    · rw [if_pos c3] at H
      have c3b0 : (a0.toList == ([104, 116, 116, 112] : List UInt8)) = true := beq_iff_eq.mpr c3
      have c3b1 : (a0.toList != ([104, 116, 116, 112] : List UInt8)) = false := bne_eq_false_iff_eq.mpr c3
      clear c3
      (first | rw [c3b0] | (simp only [i64_w, i32_w]; rw [c3b0]) | skip)
      have H' := Aside0.mk H
      clear H
      go_wp2
      go_meet
      case rel => exact ⟨_, ((a0.toList == ([104, 116, 116, 112] : List UInt8))), (by first | rfl | (simp; done) | (simp [*]; done)), H', ⟨by first | omega | exact Nat.le_refl _⟩, by repeat (first | exact Drawn0.refl _ | apply Drawn0.step)⟩
    · rw [if_neg c3] at H
      have c3b0 : (a0.toList == ([104, 116, 116, 112] : List UInt8)) = false := beq_eq_false_iff_ne.mpr c3
      have c3b1 : (a0.toList != ([104, 116, 116, 112] : List UInt8)) = true := bne_iff_ne.mpr c3
      (first | rw [c3b0] | (simp only [i64_w, i32_w]; rw [c3b0]) | skip)
      have H' := Aside0.mk H
      clear H
      go_wp2
      go_meet
      case rel => exact ⟨_, ((a0.toList == ([119, 115] : List UInt8))), (by first | rfl | (simp; done) | (simp [*]; done)), H', ⟨by first | omega | exact Nat.le_refl _⟩, by repeat (first | exact Drawn0.refl _ | apply Drawn0.step)⟩
  case rest =>
    clear HC2
    try clear c2
    try clear p2
    try clear c3
    try clear c3b0
    try clear c3b1
    obtain ⟨kq, x5_1, rfl, HA, HJ1, ⟨mc1, rfl⟩⟩ := hcut
    cases kq with
    | zero => exact absurd HA.out (by simp [parapetref9_Default.j0])
    | succ kj1 =>
      have H := HA.out
      clear HA
      simp only [parapetref9_Default.j0] at H
      by_cases c4 : x5_1 = true
      · subst c4
        have H1 : (some (80, true)) = some (r1, r2) := by rw [if_pos rfl] at H; exact H
        clear H
        have H := H1
        clear H1
        simp only [Option.some.injEq, Prod.mk.injEq] at H
        obtain ⟨rfl, rfl⟩ := H
        go_wp2
        go_ret2
        exact ⟨by first | rfl | (simp; done) | (simp [*]; done), by repeat (first | exact Drawn0.refl _ | apply Drawn0.step)⟩
      · replace c4 := Bool.eq_false_iff.mpr c4
        subst c4
        have H1 : (if a0.toList = ([104, 116, 116, 112, 115] : List UInt8) then (parapetref9_Default.j1 kj1 a0 (a0.toList == ([104, 116, 116, 112, 115] : List UInt8))) else (parapetref9_Default.j1 kj1 a0 (a0.toList == ([119, 115, 115] : List UInt8)))) = some (r1, r2) := by rw [if_neg (show ¬ (false = true) by decide)] at H; exact H
        clear H
        have H := H1
        clear H1
        have HC5 := Aside0.mk H
        clear H
        go_upto_if 8 with (fail)
        go_cut [8] (fun v8 wc => ∃ (kq : Nat) (x8_4 : Bool), v8 = .bool x8_4 ∧ Aside0 (parapetref9_Default.j1 kq a0 x8_4 = some (r1, r2)) ∧ Aside0 (kq ≤ kj1) ∧ Drawn0 w wc)
        case first =>
          have H := HC5.out
          clear HC5
          by_cases c6 : a0.toList = ([104, 116, 116, 112, 115] : List UInt8)
          · rw [if_pos c6] at H
            have c6b0 : (a0.toList == ([104, 116, 116, 112, 115] : List UInt8)) = true := beq_iff_eq.mpr c6
            have c6b1 : (a0.toList != ([104, 116, 116, 112, 115] : List UInt8)) = false := bne_eq_false_iff_eq.mpr c6
            clear c6
            (first | rw [c6b0] | (simp only [i64_w, i32_w]; rw [c6b0]) | skip)
            have H' := Aside0.mk H
            clear H
            go_wp2
            go_meet
            case rel => exact ⟨_, ((a0.toList == ([104, 116, 116, 112, 115] : List UInt8))), (by first | rfl | (simp; done) | (simp [*]; done)), H', ⟨by have := HJ1.out; first | omega | exact Nat.le_refl _⟩, by repeat (first | exact Drawn0.refl _ | apply Drawn0.step)⟩
          · rw [if_neg c6] at H
            have c6b0 : (a0.toList == ([104, 116, 116, 112, 115] : List UInt8)) = false := beq_eq_false_iff_ne.mpr c6
            have c6b1 : (a0.toList != ([104, 116, 116, 112, 115] : List UInt8)) = true := bne_iff_ne.mpr c6
            (first | rw [c6b0] | (simp only [i64_w, i32_w]; rw [c6b0]) | skip)
            have H' := Aside0.mk H
            clear H
            go_wp2
            go_meet
            case rel => exact ⟨_, ((a0.toList == ([119, 115, 115] : List UInt8))), (by first | rfl | (simp; done) | (simp [*]; done)), H', ⟨by have := HJ1.out; first | omega | exact Nat.le_refl _⟩, by repeat (first | exact Drawn0.refl _ | apply Drawn0.step)⟩
        case rest =>
          clear HC5
          try clear c1
          try clear c2
          try clear p2
          try clear c3
          try clear c3b0
          try clear c3b1
          try clear c4
          try clear c6
          try clear c6b0
          try clear c6b1
          try clear p2
          obtain ⟨kq, x8_4, rfl, HA, HJ4, ⟨mc4, rfl⟩⟩ := hcut
          cases kq with
          | zero => exact absurd HA.out (by simp [parapetref9_Default.j1])
          | succ kj4 =>
            have H := HA.out
            clear HA
            simp only [parapetref9_Default.j1] at H
            by_cases c7 : x8_4 = true
            · subst c7
              have H1 : (some (443, true)) = some (r1, r2) := by rw [if_pos rfl] at H; exact H
              clear H
              have H := H1
              clear H1
              simp only [Option.some.injEq, Prod.mk.injEq] at H
              obtain ⟨rfl, rfl⟩ := H
              go_wp2
              go_ret2
              exact ⟨by first | rfl | (simp; done) | (simp [*]; done), by repeat (first | exact Drawn0.refl _ | apply Drawn0.step)⟩
            · replace c7 := Bool.eq_false_iff.mpr c7
              subst c7
              have H1 : (if a0.toList = ([102, 116, 112] : List UInt8) then (some (21, true)) else (some (0, false))) = some (r1, r2) := by rw [if_neg (show ¬ (false = true) by decide)] at H; exact H
              clear H
              have H := H1
              clear H1
              by_cases c8 : a0.toList = ([102, 116, 112] : List UInt8)
              · rw [if_pos c8] at H
                have c8b0 : (a0.toList == ([102, 116, 112] : List UInt8)) = true := beq_iff_eq.mpr c8
                have c8b1 : (a0.toList != ([102, 116, 112] : List UInt8)) = false := bne_eq_false_iff_eq.mpr c8
                clear c8
                simp only [Option.some.injEq, Prod.mk.injEq] at H
                obtain ⟨rfl, rfl⟩ := H
                go_wp2
                go_ret2
                exact ⟨by first | rfl | (simp; done) | (simp [*]; done), by repeat (first | exact Drawn0.refl _ | apply Drawn0.step)⟩
              · rw [if_neg c8] at H
                have c8b0 : (a0.toList == ([102, 116, 112] : List UInt8)) = false := beq_eq_false_iff_ne.mpr c8
                have c8b1 : (a0.toList != ([102, 116, 112] : List UInt8)) = true := bne_iff_ne.mpr c8
                simp only [Option.some.injEq, Prod.mk.injEq] at H
                obtain ⟨rfl, rfl⟩ := H
                go_wp2
                go_ret2
                exact ⟨by first | rfl | (simp; done) | (simp [*]; done), by repeat (first | exact Drawn0.refl _ | apply Drawn0.step)⟩
end Go.Proofs.YtcmcopieagpppaaGreatDoor.P
namespace Go.Proofs.YtcmcopieagpppaaGreatDoor.P
open Go.RowKit Go.Proofs.YtcmcopieagpppaaGreatDoorW.PrintWords Go.Proofs.YtcmcopieagpppaaGreatDoorW.PrintLast Go.Proofs.YtcmcopieagpppaaGreatDoorW.PrintMore
set_option linter.unusedVariables false
set_option linter.unusedSimpArgs false
def bs (s : ByteArray) : List UInt8 := s.data.toList
theorem bs_ba (l : List UInt8) : bs (ba l) = l := rfl
theorem ba_bs (s : ByteArray) : ba (bs s) = s := rfl
theorem bs_len (s : ByteArray) : (bs s).length = s.size := size_list s
theorem bs_toList (s : ByteArray) : s.toList = bs s := Lib.toList_data s
theorem takeWhile_len {α : Type} (p : α → Bool) (l : List α) : (l.takeWhile p).length ≤ l.length := (List.takeWhile_sublist p).length_le
theorem dropWhile_len {α : Type} (p : α → Bool) (l : List α) : (l.dropWhile p).length ≤ l.length := (List.dropWhile_sublist p).length_le
theorem upTo_c (s : ByteArray) (t : List UInt8) (w : World) (hs : s.size ≤ 4611686018427387904) (ht : t.length ≤ 1000) :
    Calls Tryz.prog 64 #[.string s, .string (ba t)] w fun e w' => ∃ n : Nat, e = .returned (.int .i64 n) ∧ Hid (n = ((bs s).takeWhile fun c => !t.contains c).length) ∧ n ≤ s.size ∧ Below w.heap.size w w' := by
  have h := upTo_eq (bs s) t ((bs s).length + t.length + 2) (by rw [bs_len]; omega) ht (by omega)
  refine (parapetref9_upTo.calls _ s (ba t) _ w h).mono fun e w' ⟨he, hd⟩ => ⟨_, he, Lib.hid rfl, ?_, hd.below⟩
  rw [← bs_len]
  exact takeWhile_len _ _
theorem encode_c (s : ByteArray) (n : Int) (w : World) (hs : s.size ≤ 35184372088832) (h0 : 0 ≤ n) :
    Calls Tryz.prog 66 #[.string s, .int .i64 n] w fun e w' => ∃ r : ByteArray, e = .returned (.string r) ∧ Hid (r = ba (Web.enc n.toNat (bs s))) ∧ Below w.heap.size w w' := by
  obtain ⟨m, rfl⟩ := Int.eq_ofNat_of_zero_le h0
  have h := encode_eq (bs s) m ((bs s).length + 22) (by rw [bs_len]; omega) (by omega)
  exact (parapetref9_Encode.calls _ s _ _ w h).mono fun e w' ⟨he, hd⟩ => ⟨_, he, Lib.hid rfl, hd⟩
theorem ref_host_c (s : ByteArray) (w : World) (hs : s.size < 8796093022200) :
    Calls Tryz.prog 99 #[.string s] w fun e w' => e = .returned (.tuple #[.string (hostP (bs s)).1, .int .i64 (hostP (bs s)).2]) ∧ Below w.heap.size w w' := by
  have h := ref_host_eq (bs s) (by rw [bs_len]; omega) 17592186044901 (by omega)
  exact parapetref9_Host.calls _ s _ _ w h
theorem ref_lower_c (s : ByteArray) (w : World) (hs : s.size < 140737488355328) :
    Calls Tryz.prog 63 #[.string s] w fun e w' => ∃ r : ByteArray, e = .returned (.string r) ∧ Hid (r = ba (Web.lowerL (bs s))) ∧ r.size = s.size ∧ Below w.heap.size w w' := by
  have h := lower_eq (bs s) ((bs s).length + 1) (by rw [bs_len]; omega) (by omega)
  exact (parapetref1_Lower.calls _ s _ w h).mono fun e w' ⟨he, hd⟩ => ⟨_, he, Lib.hid rfl, by rw [ba_size, Web.lowerL_length, bs_len], hd⟩
theorem trim_len (l : List UInt8) : (Web.trim l).length ≤ l.length := by
  unfold Web.trim
  rw [List.length_reverse]
  refine Nat.le_trans (dropWhile_len _ _) ?_
  rw [List.length_reverse]
  exact dropWhile_len _ _
theorem clean_len (l : List UInt8) : (Web.clean l).length ≤ l.length := Nat.le_trans (List.length_filter_le _ _) (trim_len l)
theorem ref_clean_c (s : ByteArray) (w : World) (hs : s.size < 140737488355328) :
    Calls Tryz.prog 61 #[.string s] w fun e w' => ∃ r : ByteArray, e = .returned (.string r) ∧ Hid (r = ba (Web.clean (bs s))) ∧ r.size ≤ s.size ∧ Below w.heap.size w w' := by
  have h := clean_eq (bs s) (3 * (bs s).length + 7) (by rw [bs_len]; omega) (by omega)
  exact (parapetref9_clean.calls _ s _ w h).mono fun e w' ⟨he, hd⟩ => ⟨_, he, Lib.hid rfl, by rw [ba_size, ← bs_len]; exact clean_len _, hd⟩
theorem schemeN_le (l : List UInt8) : schemeN l ≤ l.length := by
  unfold schemeN
  split
  · simp
  · rename_i c t
    have := takeWhile_len isSchemed t
    repeat' split
    all_goals (simp only [List.length_cons]; omega)
theorem ref_scheme_c (s : ByteArray) (w : World) (hs : s.size ≤ 4611686018427387904) :
    Calls Tryz.prog 62 #[.string s] w fun e w' => ∃ n : Nat, e = .returned (.int .i64 n) ∧ Hid (n = schemeN (bs s)) ∧ n ≤ s.size ∧ Below w.heap.size w w' := by
  have h := scheme_eq (bs s) ((bs s).length + 3) (by rw [bs_len]; omega) (by omega)
  exact (parapetref9_scheme.calls _ s _ w h).mono fun e w' ⟨he, hd⟩ => ⟨_, he, Lib.hid rfl, by rw [← bs_len]; exact schemeN_le _, hd.below⟩
theorem ref_utf8_c (s : ByteArray) (w : World) (hs : s.size ≤ 4611686018427387904) :
    Calls Tryz.prog 32 #[.string s] w fun e w' => e = .returned (.bool (Lib.validD (bs s))) ∧ Drawn0 w w' :=
  parapetref9_UTF8.calls _ s _ w (utf8_eq (bs s) (by rw [bs_len]; omega) ((bs s).length + 15) (by omega))
def portP (l : List UInt8) : Int × Bool := match Web.port? l with
  | some d => ((d : Int), true)
  | none => (0, false)
theorem ref_default_eq (l : List UInt8) (k : Nat) : parapetref9_Default.f (k + 3) (ba l) = some (portP l) := by
  have e := ba_toList l
  simp only [parapetref9_Default.f, parapetref9_Default.j0, parapetref9_Default.j1, e]
  unfold portP Web.port?
  by_cases h1 : l = [104, 116, 116, 112]
  · subst h1; rfl
  by_cases h2 : l = [119, 115]
  · subst h2; rfl
  by_cases h3 : l = [104, 116, 116, 112, 115]
  · subst h3; rfl
  by_cases h4 : l = [119, 115, 115]
  · subst h4; rfl
  by_cases h5 : l = [102, 116, 112]
  · subst h5; rfl
  simp [h1, h2, h3, h4, h5]
theorem ref_default_c (s : ByteArray) (w : World) :
    Calls Tryz.prog 26 #[.string s] w fun e w' => e = .returned (.tuple #[.int .i64 (portP (bs s)).1, .bool (portP (bs s)).2]) ∧ Below w.heap.size w w' :=
  (parapetref9_Default.calls 3 s _ _ w (ref_default_eq (bs s) 0)).mono fun e w' ⟨he, hd⟩ => ⟨he, hd.below⟩
theorem ref_dots_c (s : ByteArray) (w : World) (hs : s.size < 140737488355328) :
    Calls Tryz.prog 102 #[.string s] w fun e w' => e = .returned (.int .i64 (Web.dots (bs s) : Nat)) ∧ Below w.heap.size w w' :=
  parapetref9_dots.calls _ s _ w (ref_dots_eq (bs s) (by rw [bs_len]; omega) ((bs s).length + 1) (by omega))
theorem ref_digits_c (s : ByteArray) (w : World) (hs : s.size ≤ 4611686018427387904) :
    Calls Tryz.prog 100 #[.string s, .int .i64 10] w fun e w' => e = .returned (.bool (Web.allDig 10 (bs s) && !(bs s).isEmpty)) ∧ Below w.heap.size w w' := by
  have := digits_walk s 10 w (by omega)
  rw [show digitsI s.data.toList 10 = (Web.allDig 10 (bs s) && !(bs s).isEmpty) from digitsI_eq (bs s) 10] at this
  exact this.mono fun e w' ⟨he, hd⟩ => ⟨he, hd.below⟩
theorem take_takeWhile (q : UInt8 → Bool) : ∀ l : List UInt8, l.take (l.takeWhile q).length = l.takeWhile q
  | [] => rfl
  | c :: t => by
    by_cases h : q c = true
    · rw [List.takeWhile_cons_of_pos h, List.length_cons, List.take_succ_cons, take_takeWhile q t]
    · rw [List.takeWhile_cons_of_neg h]; rfl
theorem drop_takeWhile (q : UInt8 → Bool) : ∀ l : List UInt8, l.drop (l.takeWhile q).length = l.dropWhile q
  | [] => rfl
  | c :: t => by
    by_cases h : q c = true
    · rw [List.takeWhile_cons_of_pos h, List.length_cons, List.drop_succ_cons, drop_takeWhile q t, List.dropWhile_cons_of_pos h]
    · rw [List.takeWhile_cons_of_neg h, List.dropWhile_cons_of_neg h]; rfl
theorem brk_fst (p : UInt8 → Bool) (l : List UInt8) : (Web.brk p l).1 = l.take (l.takeWhile fun c => !p c).length := (take_takeWhile _ l).symm
theorem brk_snd (p : UInt8 → Bool) (l : List UInt8) : (Web.brk p l).2 = l.drop (l.takeWhile fun c => !p c).length := (drop_takeWhile _ l).symm
end Go.Proofs.YtcmcopieagpppaaGreatDoor.P
namespace Go.Proofs.YtcmcopieagpppaaGreatDoor.P
open Go.RowKit Go.Proofs.YtcmcopieagpppaaGreatDoorW.PrintWords Go.Proofs.YtcmcopieagpppaaGreatDoorW.PrintLast Go.Proofs.YtcmcopieagpppaaGreatDoorW.PrintMore
set_option linter.unusedVariables false
set_option linter.unusedSimpArgs false
def lastAt (l : List UInt8) : Nat → Int
  | 0 => -1
  | i + 1 => if l[i]? = some 64 then (i : Int) else lastAt l i
theorem lastAt_lt (l : List UInt8) : ∀ i : Nat, -1 ≤ lastAt l i ∧ lastAt l i < (i : Int)
  | 0 => by simp [lastAt]
  | i + 1 => by
    have := lastAt_lt l i
    unfold lastAt
    split <;> omega
theorem bs_get (s : ByteArray) (i : Nat) (h : i < s.size) : (bs s)[i]? = some s[i] := by
  have : i < (bs s).length := by rw [bs_len]; exact h
  rw [List.getElem?_eq_getElem this]
  rfl
def UB (w : World) (g : Nat) (sch u p h : ByteArray) (n : Int) : Prop := w.heap[g]? = some (.cells #[.string sch, .string u, .string p, .string h, .int .i64 n, .string ⟨#[]⟩, .bool false, .string ⟨#[]⟩, .bool false, .string ⟨#[]⟩] 24 (0, 0))
theorem UB.below {w w1 : World} {g : Nat} {sch u p h : ByteArray} {n : Int} (hu : UB w g sch u p h n) (hb : Below w.heap.size w w1) : UB w1 g sch u p h n := blk_below hu hb
theorem UB.set1 {w : World} {g : Nat} {sch u p h : ByteArray} {n : Int} (hu : UB w g sch u p h n) (x : ByteArray) : UB (w.setCell ⟨g, 1, none⟩ (.string x)) g sch x p h n := blk_put hu 1 _ rfl
theorem UB.set2 {w : World} {g : Nat} {sch u p h : ByteArray} {n : Int} (hu : UB w g sch u p h n) (x : ByteArray) : UB (w.setCell ⟨g, 2, none⟩ (.string x)) g sch u x h n := blk_put hu 2 _ rfl
theorem UB.set3 {w : World} {g : Nat} {sch u p h : ByteArray} {n : Int} (hu : UB w g sch u p h n) (x : ByteArray) : UB (w.setCell ⟨g, 3, none⟩ (.string x)) g sch u p x n := blk_put hu 3 _ rfl
theorem UB.set4 {w : World} {g : Nat} {sch u p h : ByteArray} {n : Int} (hu : UB w g sch u p h n) (x : Int) : UB (w.setCell ⟨g, 4, none⟩ (.int .i64 x)) g sch u p h x := blk_put hu 4 _ rfl
theorem UB.lt {w : World} {g : Nat} {sch u p h : ByteArray} {n : Int} (hu : UB w g sch u p h n) : g < w.heap.size := blk_lt hu
theorem UB.c0 {w : World} {g : Nat} {sch u p h : ByteArray} {n : Int} (hu : UB w g sch u p h n) : w.cell? ⟨g, 0, none⟩ = some (.string sch) := (blk_cell hu 0).trans rfl
theorem UB.c1 {w : World} {g : Nat} {sch u p h : ByteArray} {n : Int} (hu : UB w g sch u p h n) : w.cell? ⟨g, 1, none⟩ = some (.string u) := (blk_cell hu 1).trans rfl
theorem UB.c2 {w : World} {g : Nat} {sch u p h : ByteArray} {n : Int} (hu : UB w g sch u p h n) : w.cell? ⟨g, 2, none⟩ = some (.string p) := (blk_cell hu 2).trans rfl
theorem UB.c3 {w : World} {g : Nat} {sch u p h : ByteArray} {n : Int} (hu : UB w g sch u p h n) : w.cell? ⟨g, 3, none⟩ = some (.string h) := (blk_cell hu 3).trans rfl
theorem UB.c4 {w : World} {g : Nat} {sch u p h : ByteArray} {n : Int} (hu : UB w g sch u p h n) : w.cell? ⟨g, 4, none⟩ = some (.int .i64 n) := (blk_cell hu 4).trans rfl
theorem UB.f {w : World} {g : Nat} {sch u p h : ByteArray} {n : Int} (hu : UB w g sch u p h n) (i : Nat) : w.frozen? ⟨g, i, none⟩ = false := blk_frozen hu i
theorem bs_extract (s : ByteArray) (i j : Nat) : bs (s.extract i j) = ((bs s).take j).drop i := congrArg bs (ba_extract (bs s) i j)
theorem bs_rest (s : ByteArray) (i : Nat) : bs (s.extract i s.size) = (bs s).drop i := by rw [bs_extract, ← bs_len, List.take_length]
theorem bs_head (s : ByteArray) (j : Nat) : bs (s.extract 0 j) = (bs s).take j := by rw [bs_extract, List.drop_zero]
theorem upTo_b (s : ByteArray) (t : List UInt8) (q : UInt8 → Bool) (hq : ∀ c, t.contains c = q c) (w : World) (hs : s.size ≤ 4611686018427387904) (ht : t.length ≤ 1000) :
    Calls Tryz.prog 64 #[.string s, .string (ba t)] w fun e w' => ∃ n : Nat, e = .returned (.int .i64 n) ∧
      Hid (bs (s.extract 0 n) = (Web.brk q (bs s)).1 ∧ bs (s.extract n s.size) = (Web.brk q (bs s)).2 ∧ bs (s.extract (n + 1) s.size) = (Web.brk q (bs s)).2.drop 1) ∧ n ≤ s.size ∧ Below w.heap.size w w' := by
  refine (upTo_c s t w hs ht).mono ?_
  rintro e w1 ⟨n, he, hn, hl, hb⟩
  refine ⟨n, he, Lib.hid ?_, hl, hb⟩
  have e1 : (fun c => !t.contains c) = fun c => !q c := funext fun c => by rw [hq c]
  have hn := hn.out
  rw [e1] at hn
  refine ⟨?_, ?_, ?_⟩
  · rw [brk_fst, ← hn, bs_head]
  · rw [brk_snd, ← hn, bs_rest]
  · rw [brk_snd, ← hn, bs_rest, List.drop_drop]
theorem lastAt_spec (l : List UInt8) : ∀ i : Nat, i ≤ l.length → (lastAt l i = -1 ∧ 64 ∉ l.take i) ∨ ∃ k : Nat, k < i ∧ lastAt l i = (k : Int) ∧ l[k]? = some 64 ∧ 64 ∉ (l.take i).drop (k + 1)
  | 0, _ => .inl (by simp [lastAt])
  | i + 1, h => by
    have hi : i < l.length := by omega
    unfold lastAt
    by_cases c : l[i]? = some 64
    · rw [if_pos c]
      refine .inr ⟨i, by omega, rfl, c, ?_⟩
      rw [List.drop_of_length_le (by rw [List.length_take]; omega)]
      simp
    · rw [if_neg c]
      have c' : 64 ∉ [l[i]] := by
        rw [List.getElem?_eq_getElem hi] at c
        intro h'
        exact c (by rw [List.mem_singleton] at h'; rw [← h'])
      have et : l.take (i + 1) = l.take i ++ [l[i]] := by rw [List.take_add_one, List.getElem?_eq_getElem hi]; rfl
      rcases lastAt_spec l i (by omega) with ⟨h1, h2⟩ | ⟨k, h1, h2, h3, h4⟩
      · left
        refine ⟨h1, ?_⟩
        rw [et, List.mem_append]
        exact fun h => h.elim h2 c'
      · right
        refine ⟨k, by omega, h2, h3, ?_⟩
        rw [et, List.drop_append_of_le_length (by rw [List.length_take]; omega), List.mem_append]
        exact fun h => h.elim h4 c'
theorem userHost_no (l : List UInt8) (h : lastAt l l.length < 0) : Web.userHost l = (none, l) := by
  rcases lastAt_spec l l.length (Nat.le_refl _) with ⟨h1, h2⟩ | ⟨k, h1, h2, h3, h4⟩
  · rw [List.take_length] at h2
    unfold Web.userHost
    rw [if_neg (by simpa using h2)]
  · omega
theorem userHost_at (l : List UInt8) (k : Nat) (h : lastAt l l.length = (k : Int)) : Web.userHost l = (some (l.take k), l.drop (k + 1)) := by
  rcases lastAt_spec l l.length (Nat.le_refl _) with ⟨h1, h2⟩ | ⟨k', h1, h2, h3, h4⟩
  · omega
  · obtain rfl : k' = k := by omega
    rw [List.take_length] at h4
    have e : l = l.take k' ++ 64 :: l.drop (k' + 1) := by
      have := (List.take_append_drop k' l).symm
      rw [List.drop_eq_getElem_cons h1] at this
      rw [List.getElem?_eq_getElem h1] at h3
      rw [Option.some.inj h3] at this
      exact this
    generalize l.take k' = A at e ⊢
    generalize l.drop (k' + 1) = B at e h4 ⊢
    subst e
    unfold Web.userHost
    rw [if_pos (by simp)]
    have d : (A ++ 64 :: B).reverse = B.reverse ++ 64 :: A.reverse := by simp
    have hB : ∀ x ∈ B.reverse, (x != 64) = true := by
      intro x hx
      rw [bne_iff_ne]
      rintro rfl
      exact h4 (by simpa using hx)
    rw [d, List.dropWhile_append_of_pos hB, List.takeWhile_append_of_pos hB]
    simp
def userEnc : Option (List UInt8) → List UInt8 × List UInt8
  | none => ([], [])
  | some u => (Web.enc 4 (Web.brk (· == 58) u).1, Web.enc 4 ((Web.brk (· == 58) u).2.drop 1))
theorem auth_def (d : Nat) (a : List UInt8) : Web.auth d a = match Web.host (Web.brk (· == 58) (Web.userHost a).2).1, Web.portOf d ((Web.brk (· == 58) (Web.userHost a).2).2.drop 1) with
    | some h, some p => some ((userEnc (Web.userHost a).1).1, (userEnc (Web.userHost a).1).2, h, p)
    | _, _ => none := by
  unfold Web.auth
  dsimp only
  cases (Web.userHost a).1 <;> rfl
def authIs (d : Nat) (a : List UInt8) (b : Bool) (u p h : List UInt8) (n : Int) : Prop := match Web.auth d a with
  | none => b = false
  | some r => b = true ∧ r = (u, p, h, n)
theorem authIs_nohost {d : Nat} {a : List UInt8} (h : Web.host (Web.brk (· == 58) (Web.userHost a).2).1 = none) (u p x : List UInt8) (n : Int) : authIs d a false u p x n := by
  unfold authIs
  rw [auth_def, h]
theorem authIs_noport {d : Nat} {a : List UInt8} (h : Web.portOf d ((Web.brk (· == 58) (Web.userHost a).2).2.drop 1) = none) (u p x : List UInt8) (n : Int) : authIs d a false u p x n := by
  unfold authIs
  rw [auth_def, h]
  cases Web.host (Web.brk (· == 58) (Web.userHost a).2).1 <;> rfl
theorem authIs_yes {d : Nat} {a : List UInt8} {x : List UInt8} {n : Int} (h : Web.host (Web.brk (· == 58) (Web.userHost a).2).1 = some x) (h2 : Web.portOf d ((Web.brk (· == 58) (Web.userHost a).2).2.drop 1) = some n) : authIs d a true (userEnc (Web.userHost a).1).1 (userEnc (Web.userHost a).1).2 x n := by
  unfold authIs
  rw [auth_def, h, h2]
  exact ⟨rfl, rfl⟩
theorem is58 (c : UInt8) : [58].contains c = (c == 58) := by simp [Bool.beq_eq_decide_eq]
theorem below_g {B : Nat} {w w1 w2 : World} (h : Below B w w1) (hB : B ≤ w1.heap.size) (k : Below w1.heap.size w1 w2) : Below B w w2 := below_then h hB k
theorem below_gset {g : Nat} {w w1 : World} (h : Below g w w1) (j : Nat) (v : Value) : Below g w (w1.setCell ⟨g, j, none⟩ v) := h.setCell (Nat.le_refl _) _
theorem dig10 (c : UInt8) (v : Nat) (h : Web.hexV c = some v) (hv : v < 10) : c.toNat = 48 + v ∧ v < 10 := by
  unfold Web.hexV at h
  split at h
  · have := Option.some.inj h; omega
  · split at h
    · have := Option.some.inj h; omega
    · split at h
      · have := Option.some.inj h; omega
      · cases h
set_option maxRecDepth 100000 in
set_option maxHeartbeats 2000000 in
theorem ref_auth_walk (s sch : ByteArray) (g d : Nat) (w : World) (hs : s.size < 100000) (hd : (portP (bs sch)).1 = (d : Int))
    (hu : UB w g sch ⟨#[]⟩ ⟨#[]⟩ ⟨#[]⟩ 0) :
    Calls Tryz.prog 65 #[.pointer (some ⟨g, 0, none⟩), .string s] w fun e w' => ∃ b : Bool, e = .returned (.bool b) ∧ Below g w w' ∧
      ∃ (u p h : ByteArray) (n : Int), UB w' g sch u p h n ∧ Hid (authIs d (bs s) b (bs u) (bs p) (bs h) n) := by
  have HU := Lib.hid hu
  have HG := Lib.hid hu.lt
  clear hu
  go_enter Tryz.func65, Tryz.ntmps65
  go_wp2
  go_loopw [5, 6] (fun v5 v6 wr => ∃ (at_ : Int) (i : Nat), v5 = .int .i64 at_ ∧ v6 = .int .i64 (i : Int) ∧ Hid (at_ = lastAt (bs s) i) ∧ -1 ≤ at_ ∧ at_ < i ∧ i ≤ s.size ∧ Hid (UB wr g sch ⟨#[]⟩ ⟨#[]⟩ ⟨#[]⟩ 0) ∧ Below g w wr) (fun _ v _ => ((s.size : Int) - intOf v).toNat)
  case atStart => exact ⟨-1, 0, rfl, rfl, Lib.hid rfl, by omega, by omega, by omega, HU, Below.refl _ _⟩
  case round =>
    obtain ⟨at_, i, rfl, rfl, HA, h1, h2, hi, HU1, hb⟩ := hrel
    by_cases c1 : i < s.size
    · have c1' : decide ((i : Int) < (s.size : Int)) = true := decide_eq_true (by omega)
      by_cases c2 : s[i] = 64
      · have e : ((s[i].toNat : Int)) = 64 := by rw [c2]; rfl
        go_wp2
        go_roundw
        case rel => exact ⟨i, i + 1, rfl, rfl, Lib.hid (by rw [lastAt, if_pos (by rw [bs_get s i c1, c2])]), by omega, by omega, by omega, HU1, hb⟩
        case measure => simp [intOf]; omega
      · have e : ((s[i].toNat : Int) == 64) = false := by rw [beq_eq_false_iff_ne]; intro h; exact c2 ((u8_eq s[i] 64).1 h)
        go_wp2
        go_roundw
        case rel => exact ⟨at_, i + 1, rfl, rfl, Lib.hid (by rw [lastAt, if_neg (by rw [bs_get s i c1]; intro h; exact c2 (Option.some.inj h)), HA.out]), by omega, by omega, by omega, HU1, hb⟩
        case measure => simp [intOf]; omega
    · have c1' : decide ((i : Int) < (s.size : Int)) = false := decide_eq_false (by omega)
      have HI := Lib.hid (show i = (bs s).length by rw [bs_len]; omega)
      go_upto_if 29 with (fail)
      go_cut [1] (fun v1 wc => ∃ (s1 u p : ByteArray), v1 = .string s1 ∧ Hid (bs s1 = (Web.userHost (bs s)).2 ∧ bs u = (userEnc (Web.userHost (bs s)).1).1 ∧ bs p = (userEnc (Web.userHost (bs s)).1).2) ∧ s1.size ≤ s.size ∧ Hid (UB wc g sch u p ⟨#[]⟩ 0) ∧ Below g w wc)
      case first =>
        by_cases c3 : 0 ≤ at_
        · obtain ⟨k, rfl⟩ := Int.eq_ofNat_of_zero_le c3
          have c3' : decide (0 ≤ (k : Int)) = true := decide_eq_true (by omega)
          go_wp2_with fail
          have su := Lib.hid (show (s.extract 0 k).size ≤ s.size by rw [ByteArray.size_extract]; omega)
          have e1 : bs (s.extract 0 k) = (bs s).take k := bs_head s k
          generalize s.extract 0 k = usr at su e1 ⊢
          have E1 := Lib.hid e1
          clear e1
          have su' := su.out
          refine (upTo_b usr [58] (· == 58) is58 _ (by omega) (by decide)).mono ?_
          rintro e w1 ⟨n, rfl, HN, hn, b1⟩
          go_wp2_with fail
          refine (encode_c _ 4 _ (by rw [ByteArray.size_extract]; omega) (by decide)).mono ?_
          rintro e w2 ⟨u, rfl, Hu, b2⟩
          have hB1 := below_g hb (Nat.le_of_lt (HU1.out.lt)) b1
          have U2 := (HU1.out.below b1).below b2
          have hB2 := below_g hB1 (Nat.le_of_lt (HU1.out.below b1).lt) b2
          have hc := U2.c1
          have hf := U2.f 1
          have UU2 := Lib.hid (U2.set1 u)
          have BB2 := Lib.hid (below_gset hB2 1 (.string u))
          clear U2 hB1 hB2
          by_cases c4 : n < usr.size
          · have c4' : decide ((n : Int) < (usr.size : Int)) = true := decide_eq_true (by omega)
            go_wp2_with fail
            refine (encode_c _ 4 _ (by rw [ByteArray.size_extract]; omega) (by decide)).mono ?_
            rintro e w3 ⟨p, rfl, Hp, b3⟩
            have U3 := UU2.out.below b3
            have hB3 := below_g BB2.out (Nat.le_of_lt UU2.out.lt) b3
            have hc2 := U3.c2
            have hf2 := U3.f 2
            have UU3 := Lib.hid (U3.set2 p)
            have BB3 := Lib.hid (below_gset hB3 2 (.string p))
            clear U3 hB3
            go_wp2_with fail
            go_meet
            case rel =>
              have e := userHost_at (bs s) k (by rw [← HI.out, ← HA.out])
              have ⟨e1, _, e3⟩ := HN.out
              refine ⟨_, u, p, rfl, Lib.hid ⟨?_, ?_, ?_⟩, ?_, UU3, BB3.out⟩
              · rw [e, bs_rest]
              · rw [e, Hu.out, e1, E1.out]; rfl
              · rw [e, Hp.out, e3, E1.out]; rfl
              · rw [ByteArray.size_extract]; omega
          · have c4' : decide ((n : Int) < (usr.size : Int)) = false := decide_eq_false (by omega)
            go_wp2_with fail
            go_meet
            case rel =>
              have e := userHost_at (bs s) k (by rw [← HI.out, ← HA.out])
              have ⟨e1, _, e3⟩ := HN.out
              refine ⟨_, u, ⟨#[]⟩, rfl, Lib.hid ⟨?_, ?_, ?_⟩, ?_, UU2, BB2.out⟩
              · rw [e, bs_rest]
              · rw [e, Hu.out, e1, E1.out]; rfl
              · rw [e]
                show [] = Web.enc 4 _
                rw [← E1.out, ← e3, bs_rest, List.drop_of_length_le (by rw [bs_len]; omega)]
                rfl
              · rw [ByteArray.size_extract]; omega
        · have c3' : decide (0 ≤ at_) = false := decide_eq_false c3
          go_wp2
          go_meet
          case rel =>
            have e := userHost_no (bs s) (by rw [← HI.out, ← HA.out]; omega)
            exact ⟨s, ⟨#[]⟩, ⟨#[]⟩, rfl, Lib.hid (by rw [e]; exact ⟨rfl, rfl, rfl⟩), Nat.le_refl _, HU1, hb⟩
      case rest =>
        obtain ⟨s1, u, p, rfl, HS, hs1, HU2, hb2⟩ := hcut
        clear HU1 HA HI h1 h2 hb
        go_wp2_with fail
        refine (upTo_b s1 [58] (· == 58) is58 _ (by omega) (by decide)).mono ?_
        rintro e w1 ⟨n, rfl, HN, hn, b1⟩
        go_wp2_with fail
        have sz : (s1.extract 0 n).size < 8796093022200 := by rw [ByteArray.size_extract]; omega
        refine (ref_host_c _ _ sz).mono ?_
        rintro e w2 ⟨rfl, b2⟩
        have U2 := (HU2.out.below b1).below b2
        have hB1 := below_g hb2 (Nat.le_of_lt (HU2.out.lt)) b1
        have hB2 := below_g hB1 (Nat.le_of_lt (HU2.out.below b1).lt) b2
        have UU2 := Lib.hid U2
        have BB2 := Lib.hid hB2
        clear hB1 hB2
        rcases hh : Web.host (bs (s1.extract 0 n)) with _ | hx
        · have e1 : hostP (bs (s1.extract 0 n)) = (ba [], 8) := by unfold hostP; rw [hh]; rfl
          rw [e1]
          go_wp2
          go_ret
          exact ⟨false, rfl, BB2.out, u, p, ⟨#[]⟩, 0, UU2.out, Lib.hid (authIs_nohost (by rw [← HS.out.1, ← HN.out.1, hh]) _ _ _ _)⟩
        · have e1 : hostP (bs (s1.extract 0 n)) = (ba hx, 0) := by unfold hostP; rw [hh]
          have HH := Lib.hid hh
          clear hh
          rw [e1]
          clear e1
          have hc := U2.c3
          have hf := U2.f 3
          have UU3 := Lib.hid (U2.set3 (ba hx))
          have hc4 := UU3.out.c4
          have hf4 := UU3.out.f 4
          have UU4 := Lib.hid (UU3.out.set4 (-1))
          have BB4 := Lib.hid (below_gset (below_gset BB2.out 3 (.string (ba hx))) 4 (.int .i64 (-1)))
          clear U2
          have yes : ∀ n4, Web.portOf d (bs (s1.extract (n + 1) s1.size)) = some n4 → authIs d (bs s) true (bs u) (bs p) (bs (ba hx)) n4 := fun n4 h4 => by
            have ⟨q1, q2, q3⟩ := HS.out
            have ⟨r1, r2, r3⟩ := HN.out
            have := authIs_yes (d := d) (a := bs s) (x := hx) (n := n4) (by rw [← q1, ← r1, HH.out]) (by rw [← q1, ← r3, h4])
            rw [← q2, ← q3] at this
            exact this
          have no : Web.portOf d (bs (s1.extract (n + 1) s1.size)) = none → ∀ a b c n4, authIs d (bs s) false a b c n4 := fun h4 => by
            have ⟨q1, q2, q3⟩ := HS.out
            have ⟨r1, r2, r3⟩ := HN.out
            exact authIs_noport (by rw [← q1, ← r3, h4])
          have YES := Lib.hid yes
          have NO := Lib.hid no
          clear yes no
          by_cases c4 : n = s1.size
          · have c4' : ((n : Int) == (s1.size : Int)) = true := beq_iff_eq.2 (by omega)
            go_wp2_with fail
            go_ret
            refine ⟨true, rfl, BB4.out, u, p, ba hx, -1, UU4.out, Lib.hid (YES.out _ ?_)⟩
            rw [bs_rest, List.drop_of_length_le (by rw [bs_len]; omega)]
            rfl
          · have c4' : ((n : Int) == (s1.size : Int)) = false := beq_eq_false_iff_ne.2 (by omega)
            by_cases c5 : bs (s1.extract (n + 1) s1.size) = []
            · have c5' : (s1.extract (n + 1) s1.size).toList.isEmpty = true := by rw [bs_toList, c5]; rfl
              go_wp2_with fail
              go_ret
              refine ⟨true, rfl, BB4.out, u, p, ba hx, -1, UU4.out, Lib.hid (YES.out _ ?_)⟩
              rw [c5]
              rfl
            · have c5' : (s1.extract (n + 1) s1.size).toList.isEmpty = false := by rw [bs_toList, List.isEmpty_eq_false_iff]; exact c5
              have C5 := Lib.hid c5
              clear c5
              go_wp2_with fail
              have sz2 : (s1.extract (n + 1) s1.size).size ≤ s1.size := by rw [ByteArray.size_extract]; omega
              generalize s1.extract (n + 1) s1.size = ps at sz2 C5 YES NO ⊢
              clear HN HS c5' c4' c4 hn b1 b2 hc hf hc4 hf4
              refine (ref_digits_c ps _ (by omega)).mono ?_
              rintro e w3 ⟨rfl, b3⟩
              have UU5 := Lib.hid (UU4.out.below b3)
              have BB5 := Lib.hid (below_g BB4.out (Nat.le_of_lt UU4.out.lt) b3)
              clear UU4 UU3 UU2 BB4 BB2 b3
              by_cases c6 : Web.allDig 10 (bs ps) = true
              · have e6 : (Web.allDig 10 (bs ps) && !(bs ps).isEmpty) = true := by rw [c6, List.isEmpty_eq_false_iff.2 C5.out]; rfl
                rw [e6]
                have C6 := Lib.hid c6
                clear c6 e6
                go_wp2_with fail
                go_loopw [13, 14] (fun v13 v14 wr => ∃ (m i : Nat), v13 = .int .i64 (m : Int) ∧ v14 = .int .i64 (i : Int) ∧ Hid (m = Web.value 10 ((bs ps).take i)) ∧ m ≤ 65535 ∧ i ≤ ps.size ∧ Hid (UB wr g sch u p (ba hx) (-1)) ∧ Hid (Below g w wr)) (fun _ v _ => ((ps.size : Int) - intOf v).toNat)
                case atStart => exact ⟨0, 0, rfl, rfl, Lib.hid rfl, by omega, by omega, UU5, BB5⟩
                case round =>
                  obtain ⟨m, i', rfl, rfl, HM, hm, hi', UU6, BB6⟩ := hrel
                  by_cases c7 : i' < ps.size
                  · have c7' : decide ((i' : Int) < (ps.size : Int)) = true := decide_eq_true (by omega)
                    have hg := bs_get ps i' c7
                    have ⟨v, hv, hv10⟩ := allDig_at C6.out i' (by rw [bs_len]; exact c7)
                    have hge : (bs ps)[i']'(by rw [bs_len]; exact c7) = ps[i'] := rfl
                    rw [hge] at hv
                    have ⟨d1, d2⟩ := dig10 _ v hv hv10
                    have HV := Lib.hid (show Web.value 10 ((bs ps).take (i' + 1)) = 10 * m + v by
                      rw [List.take_add_one, hg, HM.out]
                      show Web.value 10 (_ ++ [ps[i']]) = _
                      rw [value_snoc, hv]; rfl)
                    clear hg hv hge
                    have hsub : (((ps[i'].toNat : Int)) - 48) % 256 = (v : Int) := by omega
                    by_cases c8 : 65535 < 10 * m + v
                    · have c8' : decide (65535 < 10 * (m : Int) + (v : Int)) = true := decide_eq_true (by omega)
                      go_wp2_with fail
                      go_ret
                      refine ⟨false, rfl, BB6.out, u, p, ba hx, -1, UU6.out, Lib.hid (NO.out ?_ _ _ _ _)⟩
                      have big : 65535 < Web.value 10 (bs ps) := by
                        have := value_mono 10 (by omega) (bs ps) (i' + 1)
                        have := HV.out
                        omega
                      unfold Web.portOf
                      rw [if_neg C5.out, C6.out, if_neg (by decide), if_pos big]
                    · have c8' : decide (65535 < 10 * (m : Int) + (v : Int)) = false := decide_eq_false (by omega)
                      go_wp2_with fail
                      go_roundw
                      case rel => exact ⟨10 * m + v, i' + 1, by congr 1; omega, rfl, Lib.hid HV.out.symm, by have := of_decide_eq_false c8'; omega, by omega, UU6, BB6⟩
                      case measure => simp [intOf]; omega
                  · have c7' : decide ((i' : Int) < (ps.size : Int)) = false := decide_eq_false (by omega)
                    have hc0 := UU6.out.c0
                    go_wp2_with fail
                    refine (ref_default_c sch _).mono ?_
                    rintro e w4 ⟨rfl, b4⟩
                    rw [hd]
                    have BB7 := Lib.hid (below_g BB6.out (Nat.le_of_lt UU6.out.lt) b4)
                    have U7 := UU6.out.below b4
                    have hc4 := U7.c4
                    have hf4 := U7.f 4
                    have UU7 := Lib.hid U7
                    have VAL := Lib.hid (show Web.portOf d (bs ps) = if m = d then some (-1) else some (m : Int) by
                      have e : m = Web.value 10 (bs ps) := by rw [HM.out, List.take_of_length_le (by rw [bs_len]; omega)]
                      unfold Web.portOf
                      rw [if_neg C5.out, C6.out, if_neg (by decide), if_neg (by omega), ← e])
                    clear hc0 BB6 UU6 b4 U7
                    by_cases c9 : m = d
                    · have c9' : ((m : Int) == (d : Int)) = true := beq_iff_eq.2 (by omega)
                      go_wp2_with fail
                      go_ret
                      exact ⟨true, rfl, BB7.out, u, p, ba hx, -1, UU7.out, Lib.hid (YES.out _ (by rw [VAL.out, if_pos c9]))⟩
                    · have c9' : ((m : Int) == (d : Int)) = false := beq_eq_false_iff_ne.2 (by omega)
                      go_wp2_with fail
                      go_ret
                      exact ⟨true, rfl, below_gset BB7.out _ _, u, p, ba hx, m, UU7.out.set4 _, Lib.hid (YES.out _ (by rw [VAL.out, if_neg c9]))⟩
              · have e6 : (Web.allDig 10 (bs ps) && !(bs ps).isEmpty) = false := by rw [Bool.eq_false_iff.2 c6]; rfl
                rw [e6]
                go_wp2_with fail
                go_ret
                refine ⟨false, rfl, BB5.out, u, p, ba hx, -1, UU5.out, Lib.hid (NO.out ?_ _ _ _ _)⟩
                unfold Web.portOf
                rw [if_neg C5.out, Bool.eq_false_iff.2 c6]
                rfl
end Go.Proofs.YtcmcopieagpppaaGreatDoor.P
namespace Go.Proofs.YtcmcopieagpppaaGreatDoor.P
open Go.RowKit Go.Proofs.YtcmcopieagpppaaGreatDoorW.PrintWords Go.Proofs.YtcmcopieagpppaaGreatDoorW.PrintLast Go.Proofs.YtcmcopieagpppaaGreatDoorW.PrintMore
set_option linter.unusedVariables false
set_option linter.unusedSimpArgs false
theorem splitBy_one (q : UInt8 → Bool) : ∀ a : List UInt8, (∀ x ∈ a, q x = false) → Web.splitBy q a = [a]
  | [], _ => rfl
  | c :: t, h => by
    rw [Web.splitBy, h c (by simp), splitBy_one q t (fun x hx => h x (by simp [hx]))]
    rfl
theorem splitBy_more (q : UInt8 → Bool) (c : UInt8) (b : List UInt8) (hc : q c = true) : ∀ a : List UInt8, (∀ x ∈ a, q x = false) → Web.splitBy q (a ++ c :: b) = a :: Web.splitBy q b
  | [], _ => by rw [List.nil_append, Web.splitBy, hc]; rfl
  | d :: t, h => by
    rw [List.cons_append, Web.splitBy, h d (by simp), splitBy_more q c b hc t (fun x hx => h x (by simp [hx]))]
    rfl
theorem splitBy_ne (q : UInt8 → Bool) : ∀ l, Web.splitBy q l ≠ []
  | [] => by simp [Web.splitBy]
  | c :: t => by
    rw [Web.splitBy]
    split
    · simp
    · split <;> simp
theorem segs_one (acc : List (List UInt8)) (p : List UInt8) : Web.segs acc [p] = Web.seg acc p true := rfl
theorem segs_more (acc : List (List UInt8)) (p : List UInt8) (r : List (List UInt8)) (h : r ≠ []) : Web.segs acc (p :: r) = Web.segs (Web.seg acc p false) r := by
  cases r with
  | nil => exact absurd rfl h
  | cons a b => rfl
def PI (l : List UInt8) (L : List (List UInt8)) (f i : Nat) : Prop :=
  (i ≤ l.length ∧ f ≤ i ∧ (∀ x ∈ (l.drop f).take (i - f), Web.slash x = false) ∧ Web.segs L (Web.splitBy Web.slash (l.drop f)) = Web.segsOf l) ∨ (i = l.length + 1 ∧ L = Web.segsOf l)
theorem PI_first (l : List UInt8) (h : ∀ c, l.head? = some c → Web.slash c = true) (hl : l ≠ []) : PI l [] 1 1 := by
  cases l with
  | nil => exact absurd rfl hl
  | cons c t =>
    refine .inl ⟨by simp, Nat.le_refl _, by simp, ?_⟩
    unfold Web.segsOf
    rw [if_neg (by simp), Web.splitBy, h c rfl]
    rfl
theorem PI_skip {l : List UInt8} {L : List (List UInt8)} {f i : Nat} (h : PI l L f i) (hi : i < l.length) (hc : Web.slash l[i] = false) : PI l L f (i + 1) := by
  rcases h with ⟨h1, h2, h3, h4⟩ | ⟨h1, _⟩
  · refine .inl ⟨hi, by omega, ?_, h4⟩
    have e : (l.drop f).take (i + 1 - f) = (l.drop f).take (i - f) ++ [l[i]] := by
      rw [show i + 1 - f = (i - f) + 1 from by omega, List.take_add_one, List.getElem?_drop, show f + (i - f) = i from by omega, List.getElem?_eq_getElem hi]
      rfl
    rw [e]
    intro x hx
    rw [List.mem_append, List.mem_singleton] at hx
    rcases hx with hx | rfl
    · exact h3 x hx
    · exact hc
  · omega
def pieceOf (l : List UInt8) (f i : Nat) : List UInt8 := (l.take i).drop f
theorem pieceOf_eq (l : List UInt8) (f i : Nat) : pieceOf l f i = (l.drop f).take (i - f) := by
  unfold pieceOf
  rw [List.drop_take]
theorem PI_cut {l : List UInt8} {L : List (List UInt8)} {f i : Nat} (h : PI l L f i) (hi : i < l.length) (hc : Web.slash l[i] = true) : PI l (Web.seg L (pieceOf l f i) false) (i + 1) (i + 1) := by
  rcases h with ⟨h1, h2, h3, h4⟩ | ⟨h1, _⟩
  · refine .inl ⟨hi, Nat.le_refl _, by simp, ?_⟩
    rw [← h4]
    have e : l.drop f = (l.drop f).take (i - f) ++ l[i] :: l.drop (i + 1) := by
      have := (List.take_append_drop (i - f) (l.drop f)).symm
      rw [List.drop_drop, show f + (i - f) = i from by omega, List.drop_eq_getElem_cons hi] at this
      exact this
    rw [e, splitBy_more _ _ _ hc _ h3, segs_more _ _ _ (splitBy_ne _ _), pieceOf_eq]
  · omega
theorem PI_end {l : List UInt8} {L : List (List UInt8)} {f : Nat} (h : PI l L f l.length) : PI l (Web.seg L (pieceOf l f l.length) true) (l.length + 1) (l.length + 1) := by
  rcases h with ⟨h1, h2, h3, h4⟩ | ⟨h1, _⟩
  · refine .inr ⟨rfl, ?_⟩
    rw [← h4]
    have e : (l.drop f).take (l.length - f) = l.drop f := by rw [List.take_of_length_le (by rw [List.length_drop]; omega)]
    rw [e] at h3
    rw [splitBy_one _ _ h3, segs_one, pieceOf_eq, e]
  · omega
theorem PI_done {l : List UInt8} {L : List (List UInt8)} {f i : Nat} (h : PI l L f i) (hi : l.length < i) : L = Web.segsOf l := by
  rcases h with ⟨h1, _⟩ | ⟨_, h2⟩
  · omega
  · exact h2
def afterDots (L : List (List UInt8)) (p : List UInt8) : List (List UInt8) := if Web.dots p = 2 then L.dropLast else L
def DotB (b : Bool) (L : List (List UInt8)) (p : List UInt8) : Prop := (b = true ∧ L ≠ [] ∧ Web.dots p = 2) ∨ (b = false ∧ L = afterDots L p)
theorem afterDots_len (L : List (List UInt8)) (p : List UInt8) : (afterDots L p).length ≤ L.length := by
  unfold afterDots
  split
  · rw [List.length_dropLast]; omega
  · exact Nat.le_refl _
theorem afterDots_all {P : List UInt8 → Prop} (L : List (List UInt8)) (p : List UInt8) (h : ∀ x ∈ L, P x) : ∀ x ∈ afterDots L p, P x := by
  intro x hx
  unfold afterDots at hx
  split at hx
  · exact h x (List.dropLast_subset _ hx)
  · exact h x hx
theorem PI_next {s p : ByteArray} {L : List (List UInt8)} {f i : Nat} (h : PI (bs s) L f i) (hp : bs p = pieceOf (bs s) f i) (hsep : i = s.size ∨ ∃ c, (bs s)[i]? = some c ∧ Web.slash c = true) : PI (bs s) (Web.seg L (bs p) (decide (i = (bs s).length))) (i + 1) (i + 1) := by
  rw [hp]
  rcases hsep with rfl | ⟨c, hc, hs⟩
  · rw [← bs_len] at h ⊢
    rw [decide_eq_true rfl]
    exact PI_end h
  · have c2 : i < (bs s).length := (List.getElem?_eq_some_iff.1 hc).1
    rw [List.getElem?_eq_getElem c2] at hc
    have hc := Option.some.inj hc
    subst hc
    rw [decide_eq_false (by omega)]
    exact PI_cut h c2 hs
set_option maxRecDepth 100000 in
set_option maxHeartbeats 2000000 in
theorem ref_path_walk (s : ByteArray) (w : World) (hs : s.size < 100000) (h0 : ∀ c, (bs s).head? = some c → Web.slash c = true) :
    Calls Tryz.prog 67 #[.string s] w fun e w' => ∃ r : ByteArray, e = .returned (.string r) ∧ Hid (bs r = Web.path (bs s)) ∧ r.size < 40000000000 ∧ Below w.heap.size w w' := by
  have H0 := Lib.hid h0
  clear h0
  by_cases e0 : bs s = []
  · have e0' : s.toList.isEmpty = true := by rw [bs_toList, e0]; rfl
    go_enter Tryz.func67, Tryz.ntmps67
    go_wp2
    go_ret
    exact ⟨_, rfl, Lib.hid (by rw [e0]; rfl), by decide, Below.refl _ _⟩
  · have e0' : s.toList.isEmpty = false := by rw [bs_toList, List.isEmpty_eq_false_iff]; exact e0
    have E0 := Lib.hid e0
    clear e0
    go_enter Tryz.func67, Tryz.ntmps67
    go_wp2_with fail
    go_loopw [3, 4, 5] (fun v3 v4 v5 wr => ∃ (L : List (List UInt8)) (f i : Nat), v4 = .int .i64 (f : Int) ∧ v5 = .int .i64 (i : Int) ∧ Hid (Kd.R Kd.string 9 wr w.heap.size (fun _ => True) v3 (L.map ba)) ∧ Hid (PI (bs s) L f i) ∧ f ≤ i ∧ i ≤ s.size + 1 ∧ L.length ≤ i ∧ Hid (∀ x ∈ L, x.length ≤ 300000) ∧ Hid (Below w.heap.size w wr)) (fun _ _ v _ => ((s.size : Int) + 1 - intOf v).toNat)
    case atStart => exact ⟨[], 1, 1, rfl, rfl, Lib.hid (Kd.R_nil _ _ _ _ _), Lib.hid (PI_first _ H0.out E0.out), by omega, by omega, by simp, Lib.hid (by simp), Lib.hid (Below.refl _ _)⟩
    case round =>
      obtain ⟨L, f, i, rfl, rfl, HR, HP, hf, hi, hL, HS, HB⟩ := hrel
      by_cases c1 : i ≤ s.size
      · have c1' : decide ((i : Int) ≤ (s.size : Int)) = true := decide_eq_true (by omega)
        go_upto_region 7 with (fail)
        go_cut [34] (fun v34 wc => ∃ b : Bool, v34 = .bool b ∧ wc = wr ∧ Hid ((b = true ∧ ∃ c, (bs s)[i]? = some c ∧ Web.slash c = false) ∨ (b = false ∧ (i = s.size ∨ ∃ c, (bs s)[i]? = some c ∧ Web.slash c = true))))
        case first =>
          by_cases c2 : i < s.size
          · have c2' : decide ((i : Int) < (s.size : Int)) = true := decide_eq_true (by omega)
            by_cases c3 : s[i] = 47
            · have e3 : ((s[i].toNat : Int)) = 47 := by rw [c3]; rfl
              go_wp2_with fail
              go_meet
              case rel => exact ⟨false, rfl, rfl, Lib.hid (.inr ⟨rfl, .inr ⟨47, by rw [bs_get s i c2, c3], rfl⟩⟩)⟩
            · have e3 : (((s[i].toNat : Int)) == 47) = false := by rw [beq_eq_false_iff_ne]; intro h; exact c3 ((u8_eq s[i] 47).1 h)
              have e3' : (((s[i].toNat : Int)) != 47) = true := by rw [bne, e3]; rfl
              by_cases c4 : s[i] = 92
              · have e4 : ((s[i].toNat : Int)) = 92 := by rw [c4]; rfl
                go_wp2_with fail
                go_meet
                case rel => exact ⟨false, rfl, rfl, Lib.hid (.inr ⟨rfl, .inr ⟨92, by rw [bs_get s i c2, c4], rfl⟩⟩)⟩
              · have e4 : (((s[i].toNat : Int)) == 92) = false := by rw [beq_eq_false_iff_ne]; intro h; exact c4 ((u8_eq s[i] 92).1 h)
                have e4' : (((s[i].toNat : Int)) != 92) = true := by rw [bne, e4]; rfl
                have e5 : Web.slash s[i] = false := by unfold Web.slash; rw [beq_eq_false_iff_ne.2 c3, beq_eq_false_iff_ne.2 c4]; rfl
                go_wp2_with fail
                go_meet
                case rel => exact ⟨true, rfl, rfl, Lib.hid (.inl ⟨rfl, s[i], bs_get s i c2, e5⟩)⟩
          · have c2' : decide ((i : Int) < (s.size : Int)) = false := decide_eq_false (by omega)
            go_wp2_with fail
            go_meet
            case rel => exact ⟨false, rfl, rfl, Lib.hid (.inr ⟨rfl, .inl (by omega)⟩)⟩
        case rest =>
          obtain ⟨b, rfl, rfl, hsep⟩ := hcut
          cases b with
          | true =>
            have hsep := hsep.out
            rcases hsep with ⟨_, c, hg, hc⟩ | ⟨h, _⟩
            · have c2 : i < (bs s).length := (List.getElem?_eq_some_iff.1 hg).1
              have c2' := c2
              rw [bs_len] at c2'
              rw [List.getElem?_eq_getElem c2] at hg
              have hg := Option.some.inj hg
              subst hg
              have HN := Lib.hid (PI_skip HP.out c2 hc)
              clear hc hg
              go_wp2_with fail
              go_roundw
              case rel => exact ⟨L, f, i + 1, rfl, rfl, HR, HN, by omega, by omega, by omega, HS, HB⟩
              case measure => simp [intOf]; omega
            · cases h
          | false =>
            have HSEP := Lib.hid (show i = s.size ∨ ∃ c, (bs s)[i]? = some c ∧ Web.slash c = true from by
              rcases hsep.out with ⟨h, _⟩ | ⟨_, h⟩
              · cases h
              · exact h)
            clear hsep
            go_wp2_with fail
            have hsz : (s.extract f i).size ≤ s.size := by rw [ByteArray.size_extract]; omega
            have hpe : bs (s.extract f i) = pieceOf (bs s) f i := bs_extract s f i
            generalize s.extract f i = p at hsz hpe ⊢
            have HPE := Lib.hid hpe
            clear hpe
            refine (ref_dots_c p _ (by omega)).mono ?_
            rintro e w1 ⟨rfl, b1⟩
            have HR1 := Lib.hid (Kd.R_below HR.out b1)
            have HB1 := Lib.hid (below_step HB.out b1)
            clear HR HB b1
            go_upto_region 12 with (fail)
            obtain ⟨A, c, rfl⟩ := Kd.R_slice HR1.out
            rw [List.length_map] at HR1
            go_cut [53] (fun v53 wc => ∃ b : Bool, v53 = .bool b ∧ wc = w1 ∧ Hid (DotB b L (bs p)))
            case first =>
              by_cases d2 : Web.dots (bs p) = 2
              · have d2' : (((Web.dots (bs p) : Nat) : Int) == 2) = true := beq_iff_eq.2 (by omega)
                by_cases l0 : L = []
                · subst l0
                  go_wp2_with fail
                  go_meet
                  case rel => exact ⟨false, rfl, rfl, Lib.hid (.inr ⟨rfl, by unfold afterDots; split <;> rfl⟩)⟩
                · have l1 : decide (0 < ((L.length : Nat) : Int)) = true := decide_eq_true (by have := List.length_pos_iff.2 l0; omega)
                  have l2 : decide (0 < L.length) = true := decide_eq_true (List.length_pos_iff.2 l0)
                  go_wp2_with fail
                  go_meet
                  case rel => exact ⟨true, rfl, rfl, Lib.hid (.inl ⟨rfl, l0, d2⟩)⟩
              · have d2' : (((Web.dots (bs p) : Nat) : Int) == 2) = false := beq_eq_false_iff_ne.2 (by omega)
                go_wp2_with fail
                go_meet
                case rel => exact ⟨false, rfl, rfl, Lib.hid (.inr ⟨rfl, by unfold afterDots; rw [if_neg d2]⟩)⟩
            case rest =>
              obtain ⟨b, rfl, rfl, hb53⟩ := hcut
              go_upto_if 53 with (fail)
              go_cut [3] (fun v3 wc' => wc' = wc ∧ Hid (Kd.R Kd.string 9 wc' w.heap.size (fun _ => True) v3 ((afterDots L (bs p)).map ba)))
              case first =>
                cases b with
                | true =>
                  have ⟨l0, d2⟩ : L ≠ [] ∧ Web.dots (bs p) = 2 := by rcases hb53.out with ⟨_, h⟩ | ⟨h, _⟩; exact h; cases h
                  have lp := List.length_pos_iff.2 l0
                  have hlc : L.length ≤ c := by have := (Kd.R_reads' HR1.out).2.1; exact this
                  have hlc' : ((L.length : Nat) : Int) - 1 ≤ (c : Int) := by omega
                  go_wp2_with fail
                  go_meet
                  case rel =>
                    refine ⟨rfl, Lib.hid ?_⟩
                    have := Kd.R_take (m := L.length - 1) HR1.out (by rw [List.length_map]; omega)
                    rw [← List.map_take, ← List.dropLast_eq_take] at this
                    unfold afterDots
                    rw [if_pos d2]
                    exact this
                | false =>
                  have hb : L = afterDots L (bs p) := by rcases hb53.out with ⟨h, _⟩ | ⟨_, h⟩; cases h; exact h
                  have HE := Lib.hid hb
                  clear hb
                  go_wp2_with fail
                  go_meet
                  case rel => exact ⟨rfl, Lib.hid (by rw [← HE.out]; have := HR1.out; rw [← List.length_map (f := ba)] at this; exact this)⟩
              case rest =>
                obtain ⟨rfl, HR2⟩ := hcut
                clear HR1 hb53
                have HLD := Lib.hid (afterDots_len L (bs p))
                have HSD := Lib.hid (afterDots_all (P := fun x => x.length ≤ 300000) L (bs p) HS.out)
                have HNX := Lib.hid (PI_next (L := L) HP.out HPE.out HSEP.out)
                by_cases k0 : Web.dots (bs p) = 0
                · have k0' : (((Web.dots (bs p) : Nat) : Int) == 0) = true := beq_iff_eq.2 (by omega)
                  go_wp2_with fail
                  refine (encode_c p 3 _ (by omega) (by decide)).mono ?_
                  rintro e w2 ⟨q, rfl, Hq, b2⟩
                  have HR3 := Lib.hid (Kd.R_below HR2.out b2)
                  have HB2 := Lib.hid (below_step HB1.out b2)
                  clear HR2 HB1 b2
                  go_wp2_with (first | ((with_reducible refine gate_builtin (b := .append) (xs := #[.tmp 61, .tmp 64]) rfl ?_); at_builtin; refine Kd.R_append Kd.string (w0 := w) w.heap.size rfl (.tmp 61) (.tmp 64) 22 9 (.string ⟨#[]⟩) 16 rfl Tryz.underlying22 info9 rfl (by decide) (by omega) u3 ((afterDots L (bs p)).map ba) (q) [.string (q)] (fun _ => True) (fun _ => False) rfl rfl ?aP (fun _ hk => hk.elim) ?aF ?aO ?aB ?aS ?aL ?_; (case aP => exact rfl); (case aB => exact HB2.out); (case aF => exact (fun _ _ => trivial)); (case aO => exact HR3.out); (case aS => exact below_size HB2.out); (case aL => rw [List.length_map]; have := HLD.out; omega); intro v65 w3 ho hb hg hat; have HO := Lib.hid ho; have HB3 := Lib.hid hb; clear ho hb hg hat))
                  go_roundw
                  case rel =>
                    refine ⟨afterDots L (bs p) ++ [Web.enc 3 (bs p)], i + 1, i + 1, rfl, rfl, Lib.hid ?_, Lib.hid ?_, by omega, by omega, ?_, Lib.hid ?_, HB3⟩
                    · have := HO.out
                      rw [Hq.out] at this
                      rw [List.map_append]
                      exact this
                    · have := HNX.out
                      unfold Web.seg at this
                      simp only [if_pos k0] at this
                      exact this
                    · rw [List.length_append]; have := HLD.out; simp only [List.length_cons, List.length_nil]; omega
                    · intro x hx
                      rw [List.mem_append, List.mem_singleton] at hx
                      rcases hx with hx | rfl
                      · exact HSD.out x hx
                      · have := enc_len 3 (bs p); rw [bs_len] at this; omega
                  case measure => simp [intOf]; omega
                · have k0' : (((Web.dots (bs p) : Nat) : Int) == 0) = false := beq_eq_false_iff_ne.2 (by omega)
                  by_cases hl : i = s.size
                  · have hl' : ((i : Int) == (s.size : Int)) = true := beq_iff_eq.2 (by omega)
                    go_wp2_with (first | ((with_reducible refine gate_builtin (b := .append) (xs := #[.tmp 67, .tmp 68]) rfl ?_); at_builtin; refine Kd.R_append Kd.string (w0 := w) w.heap.size rfl (.tmp 67) (.tmp 68) 22 9 (.string ⟨#[]⟩) 16 rfl Tryz.underlying22 info9 rfl (by decide) (by omega) u3 ((afterDots L (bs p)).map ba) (⟨#[]⟩) [.string (⟨#[]⟩)] (fun _ => True) (fun _ => False) rfl rfl ?aP (fun _ hk => hk.elim) ?aF ?aO ?aB ?aS ?aL ?_; (case aP => exact rfl); (case aB => exact HB1.out); (case aF => exact (fun _ _ => trivial)); (case aO => exact HR2.out); (case aS => exact below_size HB1.out); (case aL => rw [List.length_map]; have := HLD.out; omega); intro v65 w3 ho hb hg hat; have HO := Lib.hid ho; have HB3 := Lib.hid hb; clear ho hb hg hat))
                    go_roundw
                    case rel =>
                      refine ⟨afterDots L (bs p) ++ [[]], i + 1, i + 1, by rw [hl]; rfl, by rw [hl]; rfl, Lib.hid ?_, Lib.hid ?_, by omega, by omega, ?_, Lib.hid ?_, HB3⟩
                      · rw [List.map_append]
                        exact HO.out
                      · have := HNX.out
                        unfold Web.seg at this
                        rw [if_neg k0, bs_len, decide_eq_true hl] at this
                        exact this
                      · rw [List.length_append]; have := HLD.out; simp only [List.length_cons, List.length_nil]; omega
                      · intro x hx
                        rw [List.mem_append, List.mem_singleton] at hx
                        rcases hx with hx | rfl
                        · exact HSD.out x hx
                        · simp
                    case measure => simp [intOf]; omega
                  · have hl' : ((i : Int) == (s.size : Int)) = false := beq_eq_false_iff_ne.2 (by omega)
                    go_wp2_with fail
                    go_roundw
                    case rel =>
                      refine ⟨afterDots L (bs p), i + 1, i + 1, rfl, rfl, HR2, Lib.hid ?_, by omega, by omega, ?_, HSD, HB1⟩
                      · have := HNX.out
                        unfold Web.seg at this
                        rw [if_neg k0, bs_len, decide_eq_false hl] at this
                        exact this
                      · have := HLD.out; omega
                    case measure => simp [intOf]; omega
      · have c1' : decide ((i : Int) ≤ (s.size : Int)) = false := decide_eq_false (by omega)
        obtain ⟨A, c, rfl⟩ := Kd.R_slice HR.out
        have HL := Lib.hid (PI_done HP.out (by rw [bs_len]; omega))
        rw [List.length_map] at HR
        by_cases c2 : L = []
        · subst c2
          go_wp2_with fail
          go_ret
          exact ⟨_, rfl, Lib.hid (by unfold Web.path; rw [← HL.out]; rfl), by decide, HB.out⟩
        · have c2' : (((L.length : Nat) : Int) == 0) = false := by
            rw [beq_eq_false_iff_ne]
            intro h
            exact c2 (List.length_eq_zero_iff.1 (by omega))
          go_wp2_with fail
          clear HP E0 e0' c1 c1' H0
          go_loopw [9, 10] (fun v9 v10 wx => ∃ (d : ByteArray) (j : Nat), v9 = .string d ∧ v10 = .int .i64 (j : Int) ∧ wx = wr ∧ Hid (bs d = (L.take j).flatMap fun s => 47 :: s) ∧ d.size ≤ j * 300001 ∧ j ≤ L.length) (fun _ v _ => ((L.length : Int) - intOf v).toNat)
          case atStart => exact ⟨⟨#[]⟩, 0, rfl, rfl, rfl, Lib.hid rfl, by decide, by omega⟩
          case round =>
            obtain ⟨d, j, rfl, rfl, rfl, HD, hd, hj⟩ := hrel
            by_cases c3 : j < L.length
            · have c3' : decide ((j : Int) < ((L.length : Nat) : Int)) = true := decide_eq_true (by omega)
              have hgd := rdOf_ba L j c3
              have hmem := HS.out _ (List.getElem_mem c3)
              have p8 : 0 ≤ (j : Int) := by omega
              have q8 : (j : Int) < (((L.map ba).length : Nat) : Int) := by rw [List.length_map]; omega
              obtain ⟨ad, e8, hx8⟩ := Kd.at_string (Kd.R_reads' HR.out).2.2 (j : Int) p8 q8
              cases e8
              rw [hgd, Int.toNat_natCast] at hx8
              have hds : d.size ≤ 31000000000 := by omega
              have hls : (ba L[j]).size ≤ 300000 := hmem
              have HD2 := Lib.hid (show bs (d ++ ⟨#[47]⟩ ++ ba L[j]) = (L.take (j + 1)).flatMap fun s => 47 :: s by
                rw [List.take_add_one, List.getElem?_eq_getElem c3, List.flatMap_append, ← HD.out]
                show bs (ba (bs d) ++ ba [47] ++ ba L[j]) = _
                rw [ba_append, ba_append, bs_ba]
                simp)
              have hsz : (d ++ ⟨#[47]⟩ ++ ba L[j]).size ≤ (j + 1) * 300001 := by
                show (ba (bs d) ++ ba [47] ++ ba L[j]).size ≤ _
                rw [ba_append, ba_append, ba_size, List.length_append, List.length_append, bs_len]
                simp only [List.length_cons, List.length_nil]
                omega
              clear hgd p8
              go_wp2_with fail
              go_roundw
              case rel => exact ⟨_, j + 1, rfl, rfl, trivial, HD2, hsz, by omega⟩
              case measure => simp [intOf]; omega
            · have c3' : decide ((j : Int) < ((L.length : Nat) : Int)) = false := decide_eq_false (by omega)
              go_wp2_with fail
              go_ret
              refine ⟨d, rfl, Lib.hid ?_, by omega, HB.out⟩
              rw [HD.out, List.take_of_length_le (by omega)]
              unfold Web.path Web.joinSegs
              rw [← HL.out, if_neg c2]
end Go.Proofs.YtcmcopieagpppaaGreatDoor.P
namespace Go.Proofs.YtcmcopieagpppaaGreatDoor.P
open Go.RowKit Go.Proofs.YtcmcopieagpppaaGreatDoorW.PrintWords Go.Proofs.YtcmcopieagpppaaGreatDoorW.PrintLast Go.Proofs.YtcmcopieagpppaaGreatDoorW.PrintMore
set_option linter.unusedVariables false
set_option linter.unusedSimpArgs false
def urlV (u : Web.U) : Value := .agg #[.string (ba u.scheme), .string (ba u.user), .string (ba u.pass), .string (ba u.host), .int .i64 u.port, .string (ba u.path), .bool u.hasQ, .string (ba u.query), .bool u.hasF, .string (ba u.frag)]
def urlZ : Value := .agg #[.string ⟨#[]⟩, .string ⟨#[]⟩, .string ⟨#[]⟩, .string ⟨#[]⟩, .int .i64 0, .string ⟨#[]⟩, .bool false, .string ⟨#[]⟩, .bool false, .string ⟨#[]⟩]
def urlR : Option Web.U → Value
  | none => .tuple #[urlZ, .int .i64 8]
  | some u => .tuple #[urlV u, .int .i64 0]
def FB (w : World) (g : Nat) (u : Web.U) : Prop := w.heap[g]? = some (.cells #[.string (ba u.scheme), .string (ba u.user), .string (ba u.pass), .string (ba u.host), .int .i64 u.port, .string (ba u.path), .bool u.hasQ, .string (ba u.query), .bool u.hasF, .string (ba u.frag)] 24 (0, 0))
theorem isLetter_low (c : UInt8) (h : 97 ≤ (Web.lowerB c).toNat ∧ (Web.lowerB c).toNat ≤ 122) : isLetter c = true := by
  unfold isLetter
  by_cases h1 : 65 ≤ c.toNat ∧ c.toNat ≤ 90
  · rw [decide_eq_true h1, Bool.or_true]
  · rw [Web.lowerB_small h1] at h
    rw [decide_eq_true h]; rfl
theorem port_letters (l : List UInt8) (d : Nat) (h : Web.port? (Web.lowerL l) = some d) : l ≠ [] ∧ ∀ c ∈ l, isLetter c = true := by
  have key : Web.lowerL l ≠ [] ∧ ∀ x ∈ Web.lowerL l, 97 ≤ x.toNat ∧ x.toNat ≤ 122 := by
    unfold Web.port? at h
    split at h
    · rename_i e
      rcases e with e | e <;> rw [e] <;> exact ⟨by simp, by decide⟩
    · split at h
      · rename_i e
        rcases e with e | e <;> rw [e] <;> exact ⟨by simp, by decide⟩
      · split at h
        · rename_i e
          rw [e]; exact ⟨by simp, by decide⟩
        · cases h
  refine ⟨fun e => key.1 (by rw [e]; rfl), fun c hc => isLetter_low c (key.2 _ ?_)⟩
  exact List.mem_map_of_mem hc
theorem letter_schemed (c : UInt8) (h : isLetter c = true) : isSchemed c = true := by
  unfold isSchemed
  rw [h]; rfl
theorem schemed_colon (c : UInt8) (h : isSchemed c = true) : c ≠ 58 := by
  rintro rfl
  revert h
  decide
theorem takeWhile_all (p : UInt8 → Bool) : ∀ (l : List UInt8) (x : UInt8), x ∈ l.takeWhile p → p x = true
  | c :: t, x, h => by
    by_cases hc : p c = true
    · rw [List.takeWhile_cons_of_pos hc] at h
      rcases List.mem_cons.1 h with rfl | h
      · exact hc
      · exact takeWhile_all p t x h
    · rw [List.takeWhile_cons_of_neg hc] at h
      cases h
theorem brk_app (q : UInt8 → Bool) (a : List UInt8) (c : UInt8) (b : List UInt8) (ha : ∀ x ∈ a, q x = false) (hc : q c = true) : Web.brk q (a ++ c :: b) = (a, c :: b) := by
  unfold Web.brk
  have h1 : ∀ x ∈ a, (!q x) = true := fun x hx => by rw [ha x hx]; rfl
  rw [List.takeWhile_append_of_pos h1, List.dropWhile_append_of_pos h1, List.takeWhile_cons_of_neg (by rw [hc]; decide), List.dropWhile_cons_of_neg (by rw [hc]; decide), List.append_nil]
theorem schemeN_app (a : List UInt8) (b : List UInt8) (h0 : a ≠ []) (h : ∀ c ∈ a, isLetter c = true) : schemeN (a ++ 58 :: b) = a.length := by
  cases a with
  | nil => exact absurd rfl h0
  | cons c t =>
    have h1 : ∀ x ∈ t, isSchemed x = true := fun x hx => letter_schemed x (h x (by simp [hx]))
    unfold schemeN
    rw [List.cons_append]
    simp only []
    rw [if_pos (h c (by simp)), List.dropWhile_append_of_pos h1, List.takeWhile_append_of_pos h1, List.dropWhile_cons_of_neg (by decide), List.takeWhile_cons_of_neg (by decide), List.append_nil, List.length_cons]
    show 1 + t.length = _
    omega
theorem schemeN_pos (l : List UInt8) (h : schemeN l ≠ 0) : Web.brk (· == 58) l = (l.take (schemeN l), 58 :: l.drop (schemeN l + 1)) := by
  cases l with
  | nil => exact absurd rfl h
  | cons c t =>
    unfold schemeN at h ⊢
    simp only [] at h ⊢
    by_cases h1 : isLetter c = true
    · rw [if_pos h1] at h ⊢
      by_cases h2 : (t.dropWhile isSchemed).head? = some 58
      · rw [if_pos h2] at h ⊢
        have e : t = t.takeWhile isSchemed ++ 58 :: (t.dropWhile isSchemed).tail := by
          have := (List.takeWhile_append_dropWhile (p := isSchemed) (l := t)).symm
          cases hd : t.dropWhile isSchemed with
          | nil => rw [hd] at h2; cases h2
          | cons x r =>
            rw [hd] at h2 this
            obtain rfl := Option.some.inj h2
            exact this
        have hl : ∀ x ∈ t.takeWhile isSchemed, isSchemed x = true := fun x hx => takeWhile_all _ _ _ hx
        generalize t.takeWhile isSchemed = a at e hl ⊢
        generalize (t.dropWhile isSchemed).tail = b at e ⊢
        subst e
        have hq : ∀ x ∈ c :: a, (x == 58) = false := by
          intro x hx
          rw [beq_eq_false_iff_ne]
          rcases List.mem_cons.1 hx with rfl | hx
          · exact schemed_colon _ (letter_schemed _ h1)
          · exact schemed_colon _ (hl x hx)
        rw [show c :: (a ++ 58 :: b) = (c :: a) ++ 58 :: b from rfl, brk_app _ _ _ _ hq rfl, show 1 + a.length = (c :: a).length from by rw [List.length_cons]; omega, List.take_left, show ((c :: a) ++ 58 :: b) = ((c :: a) ++ [58]) ++ b from by simp, show (c :: a).length + 1 = ((c :: a) ++ [58]).length from by simp, List.drop_left]
      · rw [if_neg h2] at h; exact absurd rfl h
    · rw [if_neg h1] at h; exact absurd rfl h
theorem url_scheme (l : List UInt8) : (∃ d, Web.port? (Web.lowerL (l.take (schemeN l))) = some d ∧ Web.brk (· == 58) l = (l.take (schemeN l), 58 :: l.drop (schemeN l + 1))) ∨
    (Web.port? (Web.lowerL (l.take (schemeN l))) = none ∧ ∀ c r, (Web.brk (· == 58) l).2 = c :: r → Web.port? (Web.lowerL (Web.brk (· == 58) l).1) = none) := by
  by_cases h : schemeN l = 0
  · right
    rw [h]
    refine ⟨rfl, fun c r e => ?_⟩
    cases hp : Web.port? (Web.lowerL (Web.brk (· == 58) l).1) with
    | none => rfl
    | some d =>
      exfalso
      obtain ⟨h1, h2⟩ := port_letters _ d hp
      have e2 : l = (Web.brk (· == 58) l).1 ++ c :: r := by
        rw [← e]
        exact (List.takeWhile_append_dropWhile (p := fun c => !(c == 58)) (l := l)).symm
      have hc : c = 58 := by
        have := List.head?_dropWhile_not (p := fun c => !(c == 58)) (l := l)
        have e3 : l.dropWhile (fun c => !(c == 58)) = c :: r := e
        rw [e3] at this
        simpa using this
      subst hc
      have := schemeN_app _ r h1 h2
      rw [← e2, h] at this
      exact h1 (List.length_eq_zero_iff.1 this.symm)
  · have e := schemeN_pos l h
    cases hp : Web.port? (Web.lowerL (l.take (schemeN l))) with
    | some d => exact .inl ⟨d, rfl, e⟩
    | none => exact .inr ⟨rfl, fun c r _ => by rw [e]; exact hp⟩
def uZ : Web.U := ⟨[], [], [], [], 0, [], false, [], false, []⟩
theorem FB.new (w w1 : World) (g : Nat) (h : w1.heap[g]? = some (.cells #[.string ⟨#[]⟩, .string ⟨#[]⟩, .string ⟨#[]⟩, .string ⟨#[]⟩, .int .i64 0, .string ⟨#[]⟩, .bool false, .string ⟨#[]⟩, .bool false, .string ⟨#[]⟩] 24 (0, 0))) : FB w1 g uZ := h
theorem FB.below {w w1 : World} {g : Nat} {u : Web.U} (h : FB w g u) (hb : Below w.heap.size w w1) : FB w1 g u := blk_below h hb
theorem FB.lt {w : World} {g : Nat} {u : Web.U} (h : FB w g u) : g < w.heap.size := blk_lt h
theorem FB.f {w : World} {g : Nat} {u : Web.U} (h : FB w g u) (i : Nat) : w.frozen? ⟨g, i, none⟩ = false := blk_frozen h i
theorem FB.cells {w : World} {g : Nat} {u : Web.U} (h : FB w g u) : w.cell? ⟨g, 0, none⟩ = some (.string (ba u.scheme)) ∧ w.cell? ⟨g, 1, none⟩ = some (.string (ba u.user)) ∧ w.cell? ⟨g, 2, none⟩ = some (.string (ba u.pass)) ∧ w.cell? ⟨g, 3, none⟩ = some (.string (ba u.host)) ∧ w.cell? ⟨g, 4, none⟩ = some (.int .i64 u.port) ∧ w.cell? ⟨g, 5, none⟩ = some (.string (ba u.path)) ∧ w.cell? ⟨g, 6, none⟩ = some (.bool u.hasQ) ∧ w.cell? ⟨g, 7, none⟩ = some (.string (ba u.query)) ∧ w.cell? ⟨g, 8, none⟩ = some (.bool u.hasF) ∧ w.cell? ⟨g, 9, none⟩ = some (.string (ba u.frag)) :=
  ⟨(blk_cell h 0).trans rfl, (blk_cell h 1).trans rfl, (blk_cell h 2).trans rfl, (blk_cell h 3).trans rfl, (blk_cell h 4).trans rfl, (blk_cell h 5).trans rfl, (blk_cell h 6).trans rfl, (blk_cell h 7).trans rfl, (blk_cell h 8).trans rfl, (blk_cell h 9).trans rfl⟩
theorem FB.frozens {w : World} {g : Nat} {u : Web.U} (h : FB w g u) : w.frozen? ⟨g, 0, none⟩ = false ∧ w.frozen? ⟨g, 1, none⟩ = false ∧ w.frozen? ⟨g, 2, none⟩ = false ∧ w.frozen? ⟨g, 3, none⟩ = false ∧ w.frozen? ⟨g, 4, none⟩ = false ∧ w.frozen? ⟨g, 5, none⟩ = false ∧ w.frozen? ⟨g, 6, none⟩ = false ∧ w.frozen? ⟨g, 7, none⟩ = false ∧ w.frozen? ⟨g, 8, none⟩ = false ∧ w.frozen? ⟨g, 9, none⟩ = false :=
  ⟨h.f 0, h.f 1, h.f 2, h.f 3, h.f 4, h.f 5, h.f 6, h.f 7, h.f 8, h.f 9⟩
theorem FB.set0 {w : World} {g : Nat} {u : Web.U} (h : FB w g u) (x : List UInt8) : FB (w.setCell ⟨g, 0, none⟩ (.string (ba x))) g { u with scheme := x } := blk_put h 0 _ rfl
theorem FB.set1 {w : World} {g : Nat} {u : Web.U} (h : FB w g u) (x : List UInt8) : FB (w.setCell ⟨g, 1, none⟩ (.string (ba x))) g { u with user := x } := blk_put h 1 _ rfl
theorem FB.set2 {w : World} {g : Nat} {u : Web.U} (h : FB w g u) (x : List UInt8) : FB (w.setCell ⟨g, 2, none⟩ (.string (ba x))) g { u with pass := x } := blk_put h 2 _ rfl
theorem FB.set3 {w : World} {g : Nat} {u : Web.U} (h : FB w g u) (x : List UInt8) : FB (w.setCell ⟨g, 3, none⟩ (.string (ba x))) g { u with host := x } := blk_put h 3 _ rfl
theorem FB.set4 {w : World} {g : Nat} {u : Web.U} (h : FB w g u) (x : Int) : FB (w.setCell ⟨g, 4, none⟩ (.int .i64 x)) g { u with port := x } := blk_put h 4 _ rfl
theorem FB.set5 {w : World} {g : Nat} {u : Web.U} (h : FB w g u) (x : List UInt8) : FB (w.setCell ⟨g, 5, none⟩ (.string (ba x))) g { u with path := x } := blk_put h 5 _ rfl
theorem FB.set6 {w : World} {g : Nat} {u : Web.U} (h : FB w g u) (x : Bool) : FB (w.setCell ⟨g, 6, none⟩ (.bool x)) g { u with hasQ := x } := blk_put h 6 _ rfl
theorem FB.set7 {w : World} {g : Nat} {u : Web.U} (h : FB w g u) (x : List UInt8) : FB (w.setCell ⟨g, 7, none⟩ (.string (ba x))) g { u with query := x } := blk_put h 7 _ rfl
theorem FB.set8 {w : World} {g : Nat} {u : Web.U} (h : FB w g u) (x : Bool) : FB (w.setCell ⟨g, 8, none⟩ (.bool x)) g { u with hasF := x } := blk_put h 8 _ rfl
theorem FB.set9 {w : World} {g : Nat} {u : Web.U} (h : FB w g u) (x : List UInt8) : FB (w.setCell ⟨g, 9, none⟩ (.string (ba x))) g { u with frag := x } := blk_put h 9 _ rfl
theorem FB.far {w : World} {g : Nat} {u : Web.U} (h : FB w g u) {p : Addr} (hp : g ≠ p.block) (v : Value) : FB (w.setCell p v) g u := blk_far h hp v
theorem FB.put {w : World} {g : Nat} {u : Web.U} (h : FB w g u) (v : Web.U) : FB ((((((((((w.setCell ⟨g, 0, none⟩ (.string (ba v.scheme))).setCell ⟨g, 1, none⟩ (.string (ba v.user))).setCell ⟨g, 2, none⟩ (.string (ba v.pass))).setCell ⟨g, 3, none⟩ (.string (ba v.host))).setCell ⟨g, 4, none⟩ (.int .i64 v.port)).setCell ⟨g, 5, none⟩ (.string (ba v.path))).setCell ⟨g, 6, none⟩ (.bool v.hasQ)).setCell ⟨g, 7, none⟩ (.string (ba v.query))).setCell ⟨g, 8, none⟩ (.bool v.hasF)).setCell ⟨g, 9, none⟩ (.string (ba v.frag))) g v :=
  (((((((((h.set0 v.scheme).set1 v.user).set2 v.pass).set3 v.host).set4 v.port).set5 v.path).set6 v.hasQ).set7 v.query).set8 v.hasF).set9 v.frag
theorem put10 {B : Nat} {w w1 : World} (h : Below B w w1) {g : Nat} (hg : B ≤ g) {v0 v1 v2 v3 v4 v5 v6 v7 v8 v9 : Value} : Below B w ((((((((((w1.setCell ⟨g, 0, none⟩ v0).setCell ⟨g, 1, none⟩ v1).setCell ⟨g, 2, none⟩ v2).setCell ⟨g, 3, none⟩ v3).setCell ⟨g, 4, none⟩ v4).setCell ⟨g, 5, none⟩ v5).setCell ⟨g, 6, none⟩ v6).setCell ⟨g, 7, none⟩ v7).setCell ⟨g, 8, none⟩ v8).setCell ⟨g, 9, none⟩ v9) :=
  (((((((((h.setCell hg _).setCell hg _).setCell hg _).setCell hg _).setCell hg _).setCell hg _).setCell hg _).setCell hg _).setCell hg _).setCell hg _
theorem brk_cons (q : UInt8 → Bool) (c : UInt8) (t : List UInt8) : Web.brk q (c :: t) = if q c = true then ([], c :: t) else (c :: (Web.brk q t).1, (Web.brk q t).2) := by
  unfold Web.brk
  by_cases h : q c = true
  · rw [if_pos h, List.takeWhile_cons_of_neg (by rw [h]; decide), List.dropWhile_cons_of_neg (by rw [h]; decide)]
  · have h' : (!q c) = true := by rw [Bool.eq_false_iff.2 h]; rfl
    rw [if_neg h, List.takeWhile_cons_of_pos (p := fun c => !q c) h', List.dropWhile_cons_of_pos (p := fun c => !q c) h']
theorem brk_two : ∀ r : List UInt8, (Web.brk (fun c => c == 63 || c == 35) r).1 = (Web.brk (· == 63) (Web.brk (· == 35) r).1).1 ∧ Web.brk (· == 35) (Web.brk (fun c => c == 63 || c == 35) r).2 = ((Web.brk (· == 63) (Web.brk (· == 35) r).1).2, (Web.brk (· == 35) r).2)
  | [] => ⟨rfl, rfl⟩
  | c :: t => by
    obtain ⟨h1, h2⟩ := brk_two t
    rw [brk_cons (fun c => c == 63 || c == 35), brk_cons (· == 35)]
    by_cases a : c = 35
    · subst a
      exact ⟨rfl, rfl⟩
    · have a' : (c == 35) = false := beq_eq_false_iff_ne.2 a
      by_cases b : c = 63
      · subst b
        rw [if_pos (by decide), if_neg (by decide), brk_cons (· == 63), if_pos (by decide), brk_cons (· == 35), if_neg (by decide)]
        exact ⟨rfl, rfl⟩
      · have b' : (c == 63) = false := beq_eq_false_iff_ne.2 b
        rw [if_neg (by rw [a', b']; decide), if_neg (by rw [a']; decide), brk_cons (· == 63), if_neg (by rw [b']; decide)]
        exact ⟨by rw [h1], h2⟩
theorem isEnds (c : UInt8) : [47, 92, 63, 35].contains c = Web.ends c := by
  unfold Web.ends
  simp only [List.contains_cons, List.contains_nil, Bool.or_false, Bool.or_assoc]
theorem is35 (c : UInt8) : [35].contains c = (c == 35) := by simp [Bool.beq_eq_decide_eq]
theorem is63 (c : UInt8) : [63].contains c = (c == 63) := by simp [Bool.beq_eq_decide_eq]
def strLen : Value → Nat
  | .string s => s.size
  | _ => 0
theorem bs_cons (s : ByteArray) (h : 0 < s.size) : bs s = s[0] :: bs (s.extract 1 s.size) := by
  have h1 : 0 < (bs s).length := by rw [bs_len]; exact h
  rw [bs_rest]
  have := List.drop_eq_getElem_cons h1
  rw [List.drop_zero] at this
  exact this
def SlashB (b : Bool) (x : ByteArray) (R : List UInt8) : Prop := (b = true ∧ 0 < x.size ∧ (bs (x.extract 1 x.size)).dropWhile Web.slash = R) ∨ (b = false ∧ bs x = R)
theorem brk_head (x y : List UInt8) (h : y = (Web.brk Web.ends x).2) (c : UInt8) (hc : (Web.brk (fun c => c == 63 || c == 35) y).1.head? = some c) : Web.slash c = true := by
  cases y with
  | nil => cases hc
  | cons a t =>
    rw [brk_cons] at hc
    by_cases q : (a == 63 || a == 35) = true
    · rw [if_pos q] at hc; cases hc
    · rw [if_neg q] at hc
      obtain rfl := Option.some.inj hc
      have := List.head?_dropWhile_not (p := fun c => !(Web.ends c)) (l := x)
      have e3 : x.dropWhile (fun c => !(Web.ends c)) = a :: t := h.symm
      rw [e3] at this
      have e4 : Web.ends a = true := by simpa using this
      unfold Web.ends at e4
      unfold Web.slash
      rw [Bool.or_assoc, Bool.eq_false_iff.2 q, Bool.or_false] at e4
      exact e4
def urlRest (d : Nat) (sch r0 : List UInt8) : Option Web.U :=
  match Web.auth d (Web.brk Web.ends (r0.dropWhile Web.slash)).1 with
  | none => none
  | some (user, pass, h, p) => some { scheme := sch, user := user, pass := pass, host := h, port := p, path := Web.path (Web.brk (fun c => c == 63 || c == 35) (Web.brk Web.ends (r0.dropWhile Web.slash)).2).1, hasQ := !(Web.brk (· == 35) (Web.brk (fun c => c == 63 || c == 35) (Web.brk Web.ends (r0.dropWhile Web.slash)).2).2).1.isEmpty, query := Web.enc 2 ((Web.brk (· == 35) (Web.brk (fun c => c == 63 || c == 35) (Web.brk Web.ends (r0.dropWhile Web.slash)).2).2).1.drop 1), hasF := !(Web.brk (· == 35) (Web.brk (fun c => c == 63 || c == 35) (Web.brk Web.ends (r0.dropWhile Web.slash)).2).2).2.isEmpty, frag := Web.enc 1 ((Web.brk (· == 35) (Web.brk (fun c => c == 63 || c == 35) (Web.brk Web.ends (r0.dropWhile Web.slash)).2).2).2.drop 1) }
theorem urlRest_some {d : Nat} {sch r0 u p h P q f : List UInt8} {n : Int} (ha : authIs d (Web.brk Web.ends (r0.dropWhile Web.slash)).1 true u p h n)
    (hp : Web.path (Web.brk (fun c => c == 63 || c == 35) (Web.brk Web.ends (r0.dropWhile Web.slash)).2).1 = P)
    (hq : Web.brk (· == 35) (Web.brk (fun c => c == 63 || c == 35) (Web.brk Web.ends (r0.dropWhile Web.slash)).2).2 = (q, f)) :
    urlRest d sch r0 = some ⟨sch, u, p, h, n, P, !q.isEmpty, Web.enc 2 (q.drop 1), !f.isEmpty, Web.enc 1 (f.drop 1)⟩ := by
  unfold urlRest
  rw [hp, hq]
  unfold authIs at ha
  generalize Web.auth d (Web.brk Web.ends (r0.dropWhile Web.slash)).1 = y at ha ⊢
  cases y with
  | none => cases ha
  | some y =>
    obtain ⟨_, rfl⟩ := ha
    rfl
theorem url_rest {l : List UInt8} {S r : List UInt8} {d : Nat} (hv : Lib.validD l = true) (hb : Web.brk (· == 58) (Web.clean l) = (S, 58 :: r)) (hp : Web.port? (Web.lowerL S) = some d) : Web.url l = urlRest d (Web.lowerL S) r := by
  unfold Web.url
  rw [hv, hb]
  dsimp only
  rw [hp]
  rfl
theorem url_none {l : List UInt8} (h : ∀ c r, (Web.brk (· == 58) (Web.clean l)).2 = c :: r → Web.port? (Web.lowerL (Web.brk (· == 58) (Web.clean l)).1) = none) : Web.url l = none := by
  unfold Web.url
  split
  · rfl
  · generalize Web.brk (· == 58) (Web.clean l) = x at h ⊢
    obtain ⟨a, b⟩ := x
    cases b with
    | nil => rfl
    | cons c r =>
      have := h c r rfl
      dsimp only at this ⊢
      rw [this]
set_option maxRecDepth 100000 in
set_option maxHeartbeats 2000000 in
theorem ref_url_walk (s : ByteArray) (w : World) :
    Calls Tryz.prog 23 #[.string s] w fun e w' => e = .returned (urlR (Web.parse (bs s))) ∧ Below w.heap.size w w' := by
  by_cases c1 : 65536 < s.size
  · have c1' : decide (65536 < (s.size : Int)) = true := decide_eq_true (by omega)
    go_enter Tryz.func23, Tryz.ntmps23
    go_wp2_with (first | ((with_reducible refine gate_dst (N := 2) rfl ?_); refine box_event ?hg (N := 2) ?hd (cs := #[.string ⟨#[]⟩, .string ⟨#[]⟩, .string ⟨#[]⟩, .string ⟨#[]⟩, .int .i64 0, .string ⟨#[]⟩, .bool false, .string ⟨#[]⟩, .bool false, .string ⟨#[]⟩]) (t := 24) ?hr ?_; (case hd => rfl); (case hg => rfl); (case hr => first | (go_simp; done) | (go_simp; rfl)); intro g0 hg0 w0 hbox hb0; have Z0 := Lib.hid (FB.new w w0 g0 hbox); have B0 := Lib.hid hb0; have G0 := Lib.hid (show w.heap.size ≤ g0 by omega); clear hbox hb0 hg0; obtain ⟨zc0, zc1, zc2, zc3, zc4, zc5, zc6, zc7, zc8, zc9⟩ := Z0.out.cells; obtain ⟨zf0, zf1, zf2, zf3, zf4, zf5, zf6, zf7, zf8, zf9⟩ := Z0.out.frozens))
    refine bodyPost_ret (results_ct rfl _ _ g0 24 _ (0, 0) _ rfl (Z0.out.put uZ) Tryz.underlying24 rfl (by kernel_rfl)) rfl ⟨?_, put10 B0.out G0.out⟩
    unfold Web.parse
    rw [if_pos (by rw [bs_len]; exact c1)]
    rfl
  · have c1' : decide (65536 < (s.size : Int)) = false := decide_eq_false (by omega)
    have p1 : Web.parse (bs s) = Web.url (bs s) := by
      unfold Web.parse
      rw [if_neg (by rw [bs_len]; exact c1)]
    rw [p1]
    go_enter Tryz.func23, Tryz.ntmps23
    go_wp2_with (first | ((with_reducible refine gate_dst (N := 2) rfl ?_); refine box_event ?hg (N := 2) ?hd (cs := #[.string ⟨#[]⟩, .string ⟨#[]⟩, .string ⟨#[]⟩, .string ⟨#[]⟩, .int .i64 0, .string ⟨#[]⟩, .bool false, .string ⟨#[]⟩, .bool false, .string ⟨#[]⟩]) (t := 24) ?hr ?_; (case hd => rfl); (case hg => rfl); (case hr => first | (go_simp; done) | (go_simp; rfl)); intro g0 hg0 w0 hbox hb0; have Z0 := Lib.hid (FB.new w w0 g0 hbox); have B0 := Lib.hid hb0; have G0 := Lib.hid (show w.heap.size ≤ g0 by omega); clear hbox hb0 hg0; obtain ⟨zc0, zc1, zc2, zc3, zc4, zc5, zc6, zc7, zc8, zc9⟩ := Z0.out.cells; obtain ⟨zf0, zf1, zf2, zf3, zf4, zf5, zf6, zf7, zf8, zf9⟩ := Z0.out.frozens))
    clear zc0 zc1 zc2 zc3 zc4 zc5 zc6 zc7 zc8 zc9 zf0 zf1 zf2 zf3 zf4 zf5 zf6 zf7 zf8 zf9 p1
    refine (ref_utf8_c s _ (by omega)).mono ?_
    rintro e w1 ⟨rfl, b1⟩
    have Z1 := Lib.hid (Z0.out.below b1.below)
    have B1 := Lib.hid (below_step B0.out b1.below)
    clear Z0 B0 b1
    by_cases c2 : Lib.validD (bs s) = true
    · rw [c2]
      go_wp2_with fail
      refine (ref_clean_c s _ (by omega)).mono ?_
      rintro e w2 ⟨s1, rfl, H1, hs1, b2⟩
      have Z2 := Lib.hid (Z1.out.below b2)
      have B2 := Lib.hid (below_step B1.out b2)
      clear Z1 B1 b2
      go_wp2_with fail
      refine (ref_scheme_c s1 _ (by omega)).mono ?_
      rintro e w3 ⟨n, rfl, H2, hn, b3⟩
      have Z3 := Lib.hid (Z2.out.below b3)
      have B3 := Lib.hid (below_step B2.out b3)
      clear Z2 B2 b3
      go_wp2_with fail
      have hsz : (s1.extract 0 n).size ≤ s1.size := by rw [ByteArray.size_extract]; omega
      have hsc : bs (s1.extract 0 n) = (bs s1).take n := bs_head s1 n
      generalize s1.extract 0 n = sc at hsz hsc ⊢
      have HSC := Lib.hid hsc
      clear hsc
      refine (ref_lower_c sc _ (by omega)).mono ?_
      rintro e w4 ⟨sch, rfl, H4, hsch, b4⟩
      have Z4 := Lib.hid (Z3.out.below b4)
      have B4 := Lib.hid (below_step B3.out b4)
      clear Z3 B3 b4
      go_wp2_with fail
      have U5 := (heap_alloc_new w4 (.cells #[.string sch, .string ⟨#[]⟩, .string ⟨#[]⟩, .string ⟨#[]⟩, .int .i64 0, .string ⟨#[]⟩, .bool false, .string ⟨#[]⟩, .bool false, .string ⟨#[]⟩] 24 (0, 0)))
      have Z5 := Z4.out.below (below_alloc (Below.refl w4.heap.size w4) (.cells #[.string sch, .string ⟨#[]⟩, .string ⟨#[]⟩, .string ⟨#[]⟩, .int .i64 0, .string ⟨#[]⟩, .bool false, .string ⟨#[]⟩, .bool false, .string ⟨#[]⟩] 24 (0, 0)))
      have B5 := below_alloc B4.out (.cells #[.string sch, .string ⟨#[]⟩, .string ⟨#[]⟩, .string ⟨#[]⟩, .int .i64 0, .string ⟨#[]⟩, .bool false, .string ⟨#[]⟩, .bool false, .string ⟨#[]⟩] 24 (0, 0))
      have hg5 := Z4.out.lt
      have hw5 := B4.out.size
      generalize w4.alloc (.cells #[.string sch, .string ⟨#[]⟩, .string ⟨#[]⟩, .string ⟨#[]⟩, .int .i64 0, .string ⟨#[]⟩, .bool false, .string ⟨#[]⟩, .bool false, .string ⟨#[]⟩] 24 (0, 0)) = w5 at U5 Z5 B5 ⊢
      generalize w4.heap.size = g5 at U5 hg5 hw5 ⊢
      have UH5 := Lib.hid U5
      have ZH5 := Lib.hid Z5
      have BH5 := Lib.hid B5
      clear U5 Z5 B5 Z4 B4
      refine (ref_default_c sch _).mono ?_
      rintro e w6 ⟨rfl, b6⟩
      have U6 := Lib.hid (blk_below UH5.out b6)
      have Z6 := Lib.hid (ZH5.out.below b6)
      have B6 := Lib.hid (below_step BH5.out b6)
      clear UH5 ZH5 BH5 b6
      have e1 : bs s1 = Web.clean (bs s) := by rw [H1.out, bs_ba]
      have e4 : bs sch = Web.lowerL ((Web.clean (bs s)).take (schemeN (Web.clean (bs s)))) := by rw [H4.out, bs_ba, HSC.out, H2.out, e1]
      rcases url_scheme (Web.clean (bs s)) with ⟨d, hp, hb⟩ | ⟨hp, hb⟩
      · have hpp : portP (bs sch) = ((d : Int), true) := by
          unfold portP
          rw [e4, hp]
        have hnl : n + 1 ≤ s1.size := by
          have := congrArg (fun x => x.2.length) hb
          have e5 : (Web.brk (· == 58) (Web.clean (bs s))).2.length ≤ (bs s1).length - n := by
            rw [e1, H2.out, e1, hb]
            have : Web.clean (bs s) = (Web.brk (· == 58) (Web.clean (bs s))).1 ++ (Web.brk (· == 58) (Web.clean (bs s))).2 := (List.takeWhile_append_dropWhile (p := fun c => !(c == 58)) (l := Web.clean (bs s))).symm
            have h2 := congrArg List.length this
            rw [hb, List.length_append, List.length_take] at h2
            have h3 := schemeN_le (Web.clean (bs s))
            simp only [List.length_cons] at h2 ⊢
            omega
          rw [bs_len] at e5
          rw [hb] at e5
          simp only [List.length_cons] at e5
          omega
        have HR := Lib.hid (url_rest c2 hb hp)
        have HD := Lib.hid hp
        have E4 := Lib.hid e4
        have E5 := Lib.hid (show bs (s1.extract (n + 1) s1.size) = (Web.clean (bs s)).drop (schemeN (Web.clean (bs s)) + 1) by rw [bs_rest, e1, H2.out, e1])
        clear e4 hp hb
        rw [hpp]
        have hsz2 : (s1.extract (n + 1) s1.size).size ≤ s1.size := by rw [ByteArray.size_extract]; omega
        go_wp2_with fail
        generalize s1.extract (n + 1) s1.size = r0 at E5 hsz2 ⊢
        rw [← E4.out, ← E5.out] at HR
        go_loopw [0] (fun v0 wr => ∃ x : ByteArray, v0 = .string x ∧ wr = w6 ∧ Hid ((bs x).dropWhile Web.slash = (bs r0).dropWhile Web.slash) ∧ x.size ≤ r0.size) (fun v _ => strLen v)
        case atStart => exact ⟨r0, rfl, rfl, Lib.hid rfl, Nat.le_refl _⟩
        case round =>
          obtain ⟨x, rfl, rfl, HX, hx⟩ := hrel
          go_upto_region 10 with (fail)
          go_cut [51] (fun v51 wc => ∃ b : Bool, v51 = .bool b ∧ wc = wr ∧ Hid (SlashB b x ((bs r0).dropWhile Web.slash)))
          case first =>
            by_cases z : 0 < x.size
            · have z' : decide (0 < (x.size : Int)) = true := decide_eq_true (by omega)
              have hco := bs_cons x z
              by_cases q1 : x[0] = 47
              · have e3 : ((x[0].toNat : Int)) = 47 := by rw [q1]; rfl
                have HS := Lib.hid (show (bs (x.extract 1 x.size)).dropWhile Web.slash = (bs r0).dropWhile Web.slash by
                  rw [← HX.out, hco, List.dropWhile_cons_of_pos (by rw [q1]; rfl)])
                clear hco
                go_wp2_with fail
                go_meet
                case rel => exact ⟨true, rfl, rfl, Lib.hid (.inl ⟨rfl, z, HS.out⟩)⟩
              · have e3 : (((x[0].toNat : Int)) == 47) = false := by rw [beq_eq_false_iff_ne]; intro h; exact q1 ((u8_eq x[0] 47).1 h)
                by_cases q2 : x[0] = 92
                · have e4 : ((x[0].toNat : Int)) = 92 := by rw [q2]; rfl
                  have HS := Lib.hid (show (bs (x.extract 1 x.size)).dropWhile Web.slash = (bs r0).dropWhile Web.slash by
                    rw [← HX.out, hco, List.dropWhile_cons_of_pos (by rw [q2]; rfl)])
                  clear hco
                  go_wp2_with fail
                  go_meet
                  case rel => exact ⟨true, rfl, rfl, Lib.hid (.inl ⟨rfl, z, HS.out⟩)⟩
                · have e4 : (((x[0].toNat : Int)) == 92) = false := by rw [beq_eq_false_iff_ne]; intro h; exact q2 ((u8_eq x[0] 92).1 h)
                  have HS := Lib.hid (show bs x = (bs r0).dropWhile Web.slash by
                    have e5 : ¬ Web.slash x[0] = true := by unfold Web.slash; rw [beq_eq_false_iff_ne.2 q1, beq_eq_false_iff_ne.2 q2]; decide
                    rw [← HX.out, hco, List.dropWhile_cons_of_neg e5])
                  clear hco
                  go_wp2_with fail
                  go_meet
                  case rel => exact ⟨false, rfl, rfl, Lib.hid (.inr ⟨rfl, HS.out⟩)⟩
            · have z' : decide (0 < (x.size : Int)) = false := decide_eq_false (by omega)
              have HS := Lib.hid (show bs x = (bs r0).dropWhile Web.slash by
                have : bs x = [] := List.length_eq_zero_iff.1 (by rw [bs_len]; omega)
                rw [← HX.out, this]; rfl)
              go_wp2_with fail
              go_meet
              case rel => exact ⟨false, rfl, rfl, Lib.hid (.inr ⟨rfl, HS.out⟩)⟩
          case rest =>
            obtain ⟨b, rfl, rfl, hb51⟩ := hcut
            cases b with
            | true =>
              obtain ⟨hb1, hb2⟩ : 0 < x.size ∧ (bs (x.extract 1 x.size)).dropWhile Web.slash = (bs r0).dropWhile Web.slash := by rcases hb51.out with ⟨_, h⟩ | ⟨h, _⟩; exact h; cases h
              have HB2 := Lib.hid hb2
              clear hb2 hb51
              have hsx : (x.extract 1 x.size).size < x.size := by rw [ByteArray.size_extract]; omega
              go_wp2_with fail
              go_roundw
              case rel => exact ⟨_, rfl, trivial, HB2, by omega⟩
              case measure => simp only [strLen]; exact hsx
            | false =>
              have HE := Lib.hid (show bs x = (bs r0).dropWhile Web.slash by rcases hb51.out with ⟨h, _⟩ | ⟨_, h⟩; cases h; exact h)
              clear hb51 HX
              have xs : x.size ≤ 65536 := by omega
              go_wp2_with fail
              refine (upTo_b x [47, 92, 63, 35] Web.ends isEnds _ (by omega) (by decide)).mono ?_
              rintro e w7 ⟨k, rfl, HK, hk, b7⟩
              have U7 := Lib.hid (show UB w7 g5 sch ⟨#[]⟩ ⟨#[]⟩ ⟨#[]⟩ 0 from blk_below U6.out b7)
              have Z7 := Lib.hid (Z6.out.below b7)
              have B7 := Lib.hid (below_step B6.out b7)
              clear U6 Z6 B6 b7
              go_wp2_with fail
              have ha : (x.extract 0 k).size < 100000 := by rw [ByteArray.size_extract]; omega
              refine (ref_auth_walk (x.extract 0 k) sch g5 d _ ha (by rw [hpp]) U7.out).mono ?_
              rintro e w8 ⟨b, rfl, b8, u, p, h, pn, hub, HA⟩
              have U8 := Lib.hid hub
              have Z8 := Lib.hid (show FB w8 g0 uZ from (b8.block g0 hg5).trans Z7.out)
              have B8 := Lib.hid (below_weaken B7.out hw5 b8)
              clear U7 Z7 B7 b8 hub
              cases b with
              | false =>
                have HN := Lib.hid (show Web.url (bs s) = none by
                  rw [HR.out]
                  unfold urlRest
                  have := HA.out
                  rw [HK.out.1, HE.out] at this
                  unfold authIs at this
                  generalize Web.auth d (Web.brk Web.ends ((bs r0).dropWhile Web.slash)).1 = y at this ⊢
                  cases y with
                  | none => rfl
                  | some y => exact absurd this.1 (by decide))
                obtain ⟨zc0, zc1, zc2, zc3, zc4, zc5, zc6, zc7, zc8, zc9⟩ := Z8.out.cells
                obtain ⟨zf0, zf1, zf2, zf3, zf4, zf5, zf6, zf7, zf8, zf9⟩ := Z8.out.frozens
                go_wp2_with fail
                refine bodyPost_ret (results_ct rfl _ _ g0 24 _ (0, 0) _ rfl (Z8.out.put uZ) Tryz.underlying24 rfl (by kernel_rfl)) rfl ⟨?_, put10 B8.out G0.out⟩
                rw [HN.out]
                rfl
              | true =>
                go_wp2_with fail
                have hy : (x.extract k x.size).size ≤ x.size := by rw [ByteArray.size_extract]; omega
                have EY := Lib.hid HK.out.2.1
                generalize x.extract k x.size = y at hy EY ⊢
                refine (upTo_b y [35] (· == 35) is35 _ (by omega) (by decide)).mono ?_
                rintro e w9 ⟨k2, rfl, HK2, hk2, b9⟩
                have U9 := Lib.hid (show FB w9 g5 ⟨bs sch, bs u, bs p, bs h, pn, [], false, [], false, []⟩ from FB.below (u := ⟨bs sch, bs u, bs p, bs h, pn, [], false, [], false, []⟩) U8.out b9)
                have Z9 := Lib.hid (Z8.out.below b9)
                have B9 := Lib.hid (below_step B8.out b9)
                clear U8 Z8 B8 b9
                go_upto_if 70 with (fail)
                go_cut [0] (fun v0 wc => v0 = .string y ∧ Hid (FB wc g5 ⟨bs sch, bs u, bs p, bs h, pn, [], false, [], !(Web.brk (· == 35) (bs y)).2.isEmpty, Web.enc 1 ((Web.brk (· == 35) (bs y)).2.drop 1)⟩) ∧ Hid (FB wc g0 uZ) ∧ Hid (Below w.heap.size w wc))
                case first =>
                  by_cases q : k2 < y.size
                  · have q' : decide ((k2 : Int) < (y.size : Int)) = true := decide_eq_true (by omega)
                    have f8 := U9.out.f 8
                    have q8 := U9.out.cells.2.2.2.2.2.2.2.2.1
                    have U10 := Lib.hid (U9.out.set8 true)
                    have Z10 := Lib.hid (Z9.out.far (p := ⟨g5, 8, none⟩) (Nat.ne_of_lt hg5) (.bool true))
                    have B10 := Lib.hid (B9.out.setCell (p := ⟨g5, 8, none⟩) hw5 (.bool true))
                    go_wp2_with fail
                    clear q8 f8 U9 Z9 B9
                    have hsy : (y.extract (k2 + 1) y.size).size ≤ 35184372088832 := by rw [ByteArray.size_extract]; omega
                    refine (encode_c _ 1 _ hsy (by decide)).mono ?_
                    rintro e w10 ⟨fr, rfl, HF, b10⟩
                    have U11 := Lib.hid (U10.out.below b10)
                    have Z11 := Lib.hid (Z10.out.below b10)
                    have B11 := Lib.hid (below_step B10.out b10)
                    have f9 := U11.out.f 9
                    have q9 := U11.out.cells.2.2.2.2.2.2.2.2.2
                    go_wp2_with fail
                    go_meet
                    case rel =>
                      have e3 := HK2.out.2.2
                      have e2 : (!(Web.brk (· == 35) (bs y)).2.isEmpty) = true := by
                        rw [← HK2.out.2.1, Bool.not_eq_true', List.isEmpty_eq_false_iff]
                        intro h0
                        have := congrArg List.length h0
                        rw [bs_rest, List.length_drop, bs_len] at this
                        simp only [List.length_nil] at this
                        omega
                      refine ⟨rfl, Lib.hid ?_, Lib.hid (Z11.out.far (Nat.ne_of_lt hg5) _), Lib.hid (B11.out.setCell hw5 _)⟩
                      rw [e2, ← e3]
                      have := U11.out.set9 (bs fr)
                      have e5 : bs fr = Web.enc 1 (bs (y.extract (k2 + 1) y.size)) := by rw [HF.out]; rfl
                      rw [← e5]
                      exact this
                  · have q' : decide ((k2 : Int) < (y.size : Int)) = false := decide_eq_false (by omega)
                    go_wp2_with fail
                    go_meet
                    case rel =>
                      have e2 : (Web.brk (· == 35) (bs y)).2 = [] := by
                        rw [← HK2.out.2.1, bs_rest, List.drop_of_length_le (by rw [bs_len]; omega)]
                      refine ⟨rfl, Lib.hid ?_, Z9, B9⟩
                      rw [e2]
                      exact U9.out
                case rest =>
                  obtain ⟨rfl, U12, Z12, B12⟩ := hcut
                  clear U9 Z9 B9
                  go_wp2_with fail
                  have hz : (y.extract 0 k2).size ≤ y.size := by rw [ByteArray.size_extract]; omega
                  have EZ := Lib.hid HK2.out.1
                  generalize y.extract 0 k2 = z at hz EZ ⊢
                  refine (upTo_b z [63] (· == 63) is63 _ (by omega) (by decide)).mono ?_
                  rintro e w13 ⟨k3, rfl, HK3, hk3, b13⟩
                  have U13 := Lib.hid (U12.out.below b13)
                  have Z13 := Lib.hid (Z12.out.below b13)
                  have B13 := Lib.hid (below_step B12.out b13)
                  clear U12 Z12 B12 b13 HK2
                  go_upto_if 86 with (fail)
                  go_cut [0] (fun v0 wc => v0 = .string z ∧ Hid (FB wc g5 ⟨bs sch, bs u, bs p, bs h, pn, [], !(Web.brk (· == 63) (bs z)).2.isEmpty, Web.enc 2 ((Web.brk (· == 63) (bs z)).2.drop 1), !(Web.brk (· == 35) (bs y)).2.isEmpty, Web.enc 1 ((Web.brk (· == 35) (bs y)).2.drop 1)⟩) ∧ Hid (FB wc g0 uZ) ∧ Hid (Below w.heap.size w wc))
                  case first =>
                    by_cases q : k3 < z.size
                    · have q' : decide ((k3 : Int) < (z.size : Int)) = true := decide_eq_true (by omega)
                      have f6 := U13.out.f 6
                      have q6 := U13.out.cells.2.2.2.2.2.2.1
                      have U14 := Lib.hid (U13.out.set6 true)
                      have Z14 := Lib.hid (Z13.out.far (p := ⟨g5, 6, none⟩) (Nat.ne_of_lt hg5) (.bool true))
                      have B14 := Lib.hid (B13.out.setCell (p := ⟨g5, 6, none⟩) hw5 (.bool true))
                      go_wp2_with fail
                      clear q6 f6 U13 Z13 B13
                      have hsy : (z.extract (k3 + 1) z.size).size ≤ 35184372088832 := by rw [ByteArray.size_extract]; omega
                      refine (encode_c _ 2 _ hsy (by decide)).mono ?_
                      rintro e w15 ⟨qr, rfl, HF, b15⟩
                      have U15 := Lib.hid (U14.out.below b15)
                      have Z15 := Lib.hid (Z14.out.below b15)
                      have B15 := Lib.hid (below_step B14.out b15)
                      have f7 := U15.out.f 7
                      have q7 := U15.out.cells.2.2.2.2.2.2.2.1
                      go_wp2_with fail
                      go_meet
                      case rel =>
                        have e3 := HK3.out.2.2
                        have e2 : (!(Web.brk (· == 63) (bs z)).2.isEmpty) = true := by
                          rw [← HK3.out.2.1, Bool.not_eq_true', List.isEmpty_eq_false_iff]
                          intro h0
                          have := congrArg List.length h0
                          rw [bs_rest, List.length_drop, bs_len] at this
                          simp only [List.length_nil] at this
                          omega
                        refine ⟨rfl, Lib.hid ?_, Lib.hid (Z15.out.far (Nat.ne_of_lt hg5) _), Lib.hid (B15.out.setCell hw5 _)⟩
                        rw [e2, ← e3]
                        have := U15.out.set7 (bs qr)
                        have e5 : bs qr = Web.enc 2 (bs (z.extract (k3 + 1) z.size)) := by rw [HF.out]; rfl
                        rw [← e5]
                        exact this
                    · have q' : decide ((k3 : Int) < (z.size : Int)) = false := decide_eq_false (by omega)
                      go_wp2_with fail
                      go_meet
                      case rel =>
                        have e2 : (Web.brk (· == 63) (bs z)).2 = [] := by
                          rw [← HK3.out.2.1, bs_rest, List.drop_of_length_le (by rw [bs_len]; omega)]
                        refine ⟨rfl, Lib.hid ?_, Z13, B13⟩
                        rw [e2]
                        exact U13.out
                  case rest =>
                    obtain ⟨rfl, U16, Z16, B16⟩ := hcut
                    clear U13 Z13 B13
                    go_wp2_with fail
                    have hq : (z.extract 0 k3).size ≤ z.size := by rw [ByteArray.size_extract]; omega
                    have EQ := Lib.hid HK3.out.1
                    generalize z.extract 0 k3 = pq at hq EQ ⊢
                    have hh : ∀ c, (bs pq).head? = some c → Web.slash c = true := by
                      rw [EQ.out, EZ.out, ← (brk_two (bs y)).1]
                      exact brk_head (bs x) (bs y) EY.out
                    refine (ref_path_walk pq _ (by omega) hh).mono ?_
                    rintro e w17 ⟨pr, rfl, HP, hpr, b17⟩
                    have U17 := Lib.hid (U16.out.below b17)
                    have Z17 := Lib.hid (Z16.out.below b17)
                    have B17 := Lib.hid (below_step B16.out b17)
                    clear U16 Z16 B16 b17 hh
                    have f5 := U17.out.f 5
                    have q5 := U17.out.cells.2.2.2.2.2.1
                    obtain ⟨uu, huu⟩ : ∃ x : Web.U, x = ⟨bs sch, bs u, bs p, bs h, pn, bs pr, !(Web.brk (· == 63) (bs z)).2.isEmpty, Web.enc 2 ((Web.brk (· == 63) (bs z)).2.drop 1), !(Web.brk (· == 35) (bs y)).2.isEmpty, Web.enc 1 ((Web.brk (· == 35) (bs y)).2.drop 1)⟩ := ⟨_, rfl⟩
                    have U18 := Lib.hid (show FB (w17.setCell ⟨g5, 5, none⟩ (.string pr)) g5 uu by rw [huu]; exact U17.out.set5 (bs pr))
                    have Z18 := Lib.hid (Z17.out.far (p := ⟨g5, 5, none⟩) (Nat.ne_of_lt hg5) (.string pr))
                    have B18 := Lib.hid (B17.out.setCell (p := ⟨g5, 5, none⟩) hw5 (.string pr))
                    have HUU := Lib.hid huu
                    clear huu U17 Z17 B17
                    go_upto_region 26 with (fail)
                    clear f5 q5
                    generalize w17.setCell ⟨g5, 5, none⟩ (.string pr) = w18 at U18 Z18 B18 ⊢
                    obtain ⟨zc0, zc1, zc2, zc3, zc4, zc5, zc6, zc7, zc8, zc9⟩ := Z18.out.cells
                    obtain ⟨zf0, zf1, zf2, zf3, zf4, zf5, zf6, zf7, zf8, zf9⟩ := Z18.out.frozens
                    obtain ⟨uc0, uc1, uc2, uc3, uc4, uc5, uc6, uc7, uc8, uc9⟩ := U18.out.cells
                    go_wp2_with fail
                    refine bodyPost_ret (results_ct rfl _ _ g0 24 _ (0, 0) _ rfl (Z18.out.put uu) Tryz.underlying24 rfl (by kernel_rfl)) rfl ⟨?_, put10 B18.out G0.out⟩
                    have fin : Web.url (bs s) = some uu := by
                      rw [HR.out, HUU.out]
                      have ha := HA.out
                      rw [HK.out.1, HE.out] at ha
                      exact urlRest_some ha (by rw [← HE.out, ← EY.out, HP.out, EQ.out, EZ.out]; exact congrArg Web.path (brk_two (bs y)).1) (by rw [← HE.out, ← EY.out, (brk_two (bs y)).2, EZ.out])
                    rw [fin]
                    rfl
      · have hpp : portP (bs sch) = (0, false) := by
          unfold portP
          rw [e4, hp]
        obtain ⟨zc0, zc1, zc2, zc3, zc4, zc5, zc6, zc7, zc8, zc9⟩ := Z6.out.cells
        obtain ⟨zf0, zf1, zf2, zf3, zf4, zf5, zf6, zf7, zf8, zf9⟩ := Z6.out.frozens
        rw [hpp]
        have HN := Lib.hid (url_none hb)
        clear hb hp e1 e4
        go_wp2_with fail
        refine bodyPost_ret (results_ct rfl _ _ g0 24 _ (0, 0) _ rfl (Z6.out.put uZ) Tryz.underlying24 rfl (by kernel_rfl)) rfl ⟨?_, put10 B6.out G0.out⟩
        rw [HN.out]
        rfl
    · have c2' := Bool.eq_false_iff.2 c2
      obtain ⟨zc0, zc1, zc2, zc3, zc4, zc5, zc6, zc7, zc8, zc9⟩ := Z1.out.cells
      obtain ⟨zf0, zf1, zf2, zf3, zf4, zf5, zf6, zf7, zf8, zf9⟩ := Z1.out.frozens
      rw [c2']
      go_wp2_with fail
      refine bodyPost_ret (results_ct rfl _ _ g0 24 _ (0, 0) _ rfl (Z1.out.put uZ) Tryz.underlying24 rfl (by kernel_rfl)) rfl ⟨?_, put10 B1.out G0.out⟩
      unfold Web.url
      rw [c2']
      rfl
end Go.Proofs.YtcmcopieagpppaaGreatDoor.P
namespace Go.Proofs.YtcmcopieagpppaaGreatDoor.P
open Go.RowKit Go.Proofs.YtcmcopieagpppaaGreatDoorW.PrintWords Go.Proofs.YtcmcopieagpppaaGreatDoorW.PrintLast Go.Proofs.YtcmcopieagpppaaGreatDoorW.PrintMore
attribute [local go_sem] max2_int min2_int max_two min_two max_three min_three max_four min_four
set_option linter.unusedVariables false
set_option linter.unusedSimpArgs false
def percent_extra.f (a0 : Int) : Option (ByteArray × Bool) := if a0 = 1 then (some ((⟨#[34, 60, 62, 96]⟩ : ByteArray), true)) else (if a0 = 2 then (some ((⟨#[34, 35, 39, 60, 62]⟩ : ByteArray), true)) else (if a0 = 3 then (some ((⟨#[34, 35, 60, 62, 63, 94, 96, 123, 125]⟩ : ByteArray), true)) else (if a0 = 4 then (some ((⟨#[34, 35, 60, 62, 63, 94, 96, 123, 125, 47, 58, 59, 61, 64, 91, 92, 93, 124]⟩ : ByteArray), true)) else (some ((⟨#[]⟩ : ByteArray), false)))))
set_option maxHeartbeats 8000000 in
set_option maxRecDepth 100000 in
theorem percent_extra.calls (a0 : Int) (r1 : ByteArray) (r2 : Bool) (w : World) (h : percent_extra.f a0 = some (r1, r2)) :
    Calls Tryz.prog 136 #[.int .i64 a0] w fun e w' => e = .returned (.tuple #[.string r1, .bool r2]) ∧ Drawn0 w w' := by
  have H : (if a0 = 1 then (some ((⟨#[34, 60, 62, 96]⟩ : ByteArray), true)) else (if a0 = 2 then (some ((⟨#[34, 35, 39, 60, 62]⟩ : ByteArray), true)) else (if a0 = 3 then (some ((⟨#[34, 35, 60, 62, 63, 94, 96, 123, 125]⟩ : ByteArray), true)) else (if a0 = 4 then (some ((⟨#[34, 35, 60, 62, 63, 94, 96, 123, 125, 47, 58, 59, 61, 64, 91, 92, 93, 124]⟩ : ByteArray), true)) else (some ((⟨#[]⟩ : ByteArray), false)))))) = some (r1, r2) := h
  clear h
  by_cases c2 : a0 = 1
  · rw [if_pos c2] at H
    have c2b0 : (a0 == 1) = true := beq_iff_eq.mpr c2
    have c2b1 : (a0 != 1) = false := bne_eq_false_iff_eq.mpr c2
    clear c2
    simp only [Option.some.injEq, Prod.mk.injEq] at H
    obtain ⟨rfl, rfl⟩ := H
    go_enter Tryz.func136, Tryz.ntmps136
    go_wp2
    go_ret2
    exact ⟨by first | rfl | (simp; done) | (simp [*]; done), by repeat (first | exact Drawn0.refl _ | apply Drawn0.step)⟩
  · rw [if_neg c2] at H
    have c2b0 : (a0 == 1) = false := beq_eq_false_iff_ne.mpr c2
    have c2b1 : (a0 != 1) = true := bne_iff_ne.mpr c2
    by_cases c3 : a0 = 2
    · rw [if_pos c3] at H
      have c3b0 : (a0 == 2) = true := beq_iff_eq.mpr c3
      have c3b1 : (a0 != 2) = false := bne_eq_false_iff_eq.mpr c3
      clear c3
      simp only [Option.some.injEq, Prod.mk.injEq] at H
      obtain ⟨rfl, rfl⟩ := H
      go_enter Tryz.func136, Tryz.ntmps136
      go_wp2
      go_ret2
      exact ⟨by first | rfl | (simp; done) | (simp [*]; done), by repeat (first | exact Drawn0.refl _ | apply Drawn0.step)⟩
    · rw [if_neg c3] at H
      have c3b0 : (a0 == 2) = false := beq_eq_false_iff_ne.mpr c3
      have c3b1 : (a0 != 2) = true := bne_iff_ne.mpr c3
      by_cases c4 : a0 = 3
      · rw [if_pos c4] at H
        have c4b0 : (a0 == 3) = true := beq_iff_eq.mpr c4
        have c4b1 : (a0 != 3) = false := bne_eq_false_iff_eq.mpr c4
        clear c4
        simp only [Option.some.injEq, Prod.mk.injEq] at H
        obtain ⟨rfl, rfl⟩ := H
        go_enter Tryz.func136, Tryz.ntmps136
        go_wp2
        go_ret2
        exact ⟨by first | rfl | (simp; done) | (simp [*]; done), by repeat (first | exact Drawn0.refl _ | apply Drawn0.step)⟩
      · rw [if_neg c4] at H
        have c4b0 : (a0 == 3) = false := beq_eq_false_iff_ne.mpr c4
        have c4b1 : (a0 != 3) = true := bne_iff_ne.mpr c4
        by_cases c5 : a0 = 4
        · rw [if_pos c5] at H
          have c5b0 : (a0 == 4) = true := beq_iff_eq.mpr c5
          have c5b1 : (a0 != 4) = false := bne_eq_false_iff_eq.mpr c5
          clear c5
          simp only [Option.some.injEq, Prod.mk.injEq] at H
          obtain ⟨rfl, rfl⟩ := H
          go_enter Tryz.func136, Tryz.ntmps136
          go_wp2
          go_ret2
          exact ⟨by first | rfl | (simp; done) | (simp [*]; done), by repeat (first | exact Drawn0.refl _ | apply Drawn0.step)⟩
        · rw [if_neg c5] at H
          have c5b0 : (a0 == 4) = false := beq_eq_false_iff_ne.mpr c5
          have c5b1 : (a0 != 4) = true := bne_iff_ne.mpr c5
          simp only [Option.some.injEq, Prod.mk.injEq] at H
          obtain ⟨rfl, rfl⟩ := H
          go_enter Tryz.func136, Tryz.ntmps136
          go_wp2
          go_ret2
          exact ⟨by first | rfl | (simp; done) | (simp [*]; done), by repeat (first | exact Drawn0.refl _ | apply Drawn0.step)⟩
end Go.Proofs.YtcmcopieagpppaaGreatDoor.P
namespace Go.Proofs.YtcmcopieagpppaaGreatDoor.P
open Go.RowKit Go.Proofs.YtcmcopieagpppaaGreatDoorW.PrintWords Go.Proofs.YtcmcopieagpppaaGreatDoorW.PrintLast Go.Proofs.YtcmcopieagpppaaGreatDoorW.PrintMore
attribute [local go_sem] max2_int min2_int max_two min_two max_three min_three max_four min_four
set_option linter.unusedVariables false
set_option linter.unusedSimpArgs false
def percent_In.f (a0 : Int) (a1 : Int) : Option (Bool) := (percent_extra.f a1).bind fun bt410 => (if bt410.2 = true then (if a0 < 33 then (some true) else (if a0 > 126 then (some true) else ((strings_IndexByte.f bt410.1 a0).bind fun t412 => (some (decide (t412 ≥ 0)))))) else (some false))
set_option maxHeartbeats 8000000 in
set_option maxRecDepth 100000 in
theorem percent_In.calls (a0 : Int) (a1 : Int) (r : Bool) (w : World) (h : percent_In.f a0 a1 = some r) :
    Calls Tryz.prog 95 #[.int .u8 a0, .int .i64 a1] w fun e w' => e = .returned (.bool r) ∧ Drawn0 w w' := by
  have H : ((percent_extra.f a1).bind fun bt410 => (if bt410.2 = true then (if a0 < 33 then (some true) else (if a0 > 126 then (some true) else ((strings_IndexByte.f bt410.1 a0).bind fun t412 => (some (decide (t412 ≥ 0)))))) else (some false))) = some r := h
  clear h
  replace H := Option.bind_eq_some_iff.mp H
  obtain ⟨⟨t410, t411⟩, A30, H⟩ := H
  replace H : (if t411 = true then (if a0 < 33 then (some true) else (if a0 > 126 then (some true) else ((strings_IndexByte.f t410 a0).bind fun t412 => (some (decide (t412 ≥ 0)))))) else (some false)) = some r := H
  have A3 := Aside0.mk A30
  clear A30
  by_cases c4 : t411 = true
  · subst c4
    have H1 : (if a0 < 33 then (some true) else (if a0 > 126 then (some true) else ((strings_IndexByte.f t410 a0).bind fun t412 => (some (decide (t412 ≥ 0)))))) = some r := by rw [if_pos rfl] at H; exact H
    clear H
    have H := H1
    clear H1
    by_cases c5 : a0 < 33
    · rw [if_pos c5] at H
      have c5b0 : decide (a0 < 33) = true := decide_eq_true c5
      clear c5
      obtain rfl := Option.some.inj H
      go_enter Tryz.func95, Tryz.ntmps95
      go_wp2_with (first | ((with_reducible refine gate_callee (f := 136) rfl ?_); refine goesL_ (some 9) rfl rfl Tryz.func136 (by kernel_rfl) rfl #[.int .i64 a1] rfl (by (try simp only [List.map_toArray, List.map_cons, List.map_nil]); first | done | rfl | (simp only [List.length_drop, List.length_take]; rfl)) ?_; (with_reducible refine (percent_extra.calls a1 t410 true _ A3.out).mono ?_); rintro e w' ⟨rfl, ⟨nd, rfl⟩⟩; refine ⟨_, rfl, ?_⟩))
      go_ret
      exact ⟨by first | rfl | (simp; done) | (simp [*]; done), by repeat (first | exact Drawn0.refl _ | apply Drawn0.step)⟩
    · rw [if_neg c5] at H
      have c5b0 : decide (a0 < 33) = false := decide_eq_false c5
      clear c5
      by_cases c6 : a0 > 126
      · rw [if_pos c6] at H
        have c6b0 : decide (126 < a0) = true := decide_eq_true c6
        clear c6
        obtain rfl := Option.some.inj H
        go_enter Tryz.func95, Tryz.ntmps95
        go_wp2_with (first | ((with_reducible refine gate_callee (f := 136) rfl ?_); refine goesL_ (some 9) rfl rfl Tryz.func136 (by kernel_rfl) rfl #[.int .i64 a1] rfl (by (try simp only [List.map_toArray, List.map_cons, List.map_nil]); first | done | rfl | (simp only [List.length_drop, List.length_take]; rfl)) ?_; (with_reducible refine (percent_extra.calls a1 t410 true _ A3.out).mono ?_); rintro e w' ⟨rfl, ⟨nd, rfl⟩⟩; refine ⟨_, rfl, ?_⟩))
        go_ret
        exact ⟨by first | rfl | (simp; done) | (simp [*]; done), by repeat (first | exact Drawn0.refl _ | apply Drawn0.step)⟩
      · rw [if_neg c6] at H
        have c6b0 : decide (126 < a0) = false := decide_eq_false c6
        clear c6
        replace H := Option.bind_eq_some_iff.mp H
        obtain ⟨t412, A70, H⟩ := H
        replace H : (some (decide (t412 ≥ 0))) = some r := H
        have A7 := Aside0.mk A70
        clear A70
        obtain rfl := Option.some.inj H
        go_enter Tryz.func95, Tryz.ntmps95
        go_wp2_with (first | ((with_reducible refine gate_callee (f := 136) rfl ?_); refine goesL_ (some 9) rfl rfl Tryz.func136 (by kernel_rfl) rfl #[.int .i64 a1] rfl (by (try simp only [List.map_toArray, List.map_cons, List.map_nil]); first | done | rfl | (simp only [List.length_drop, List.length_take]; rfl)) ?_; (with_reducible refine (percent_extra.calls a1 t410 true _ A3.out).mono ?_); rintro e w' ⟨rfl, ⟨nd, rfl⟩⟩; refine ⟨_, rfl, ?_⟩) | (go_at_call 89; (with_reducible refine (strings_IndexByte.calls t410 a0 t412 _ A7.out).mono ?_); rintro e w' ⟨rfl, ⟨nd, rfl⟩⟩))
        go_ret
        exact ⟨by first | rfl | (simp; done) | (simp [*]; done), by repeat (first | exact Drawn0.refl _ | apply Drawn0.step)⟩
  · replace c4 := Bool.eq_false_iff.mpr c4
    subst c4
    have H1 : (some false) = some r := by rw [if_neg (show ¬ (false = true) by decide)] at H; exact H
    clear H
    have H := H1
    clear H1
    obtain rfl := Option.some.inj H
    go_enter Tryz.func95, Tryz.ntmps95
    go_wp2_with (first | ((with_reducible refine gate_callee (f := 136) rfl ?_); refine goesL_ (some 9) rfl rfl Tryz.func136 (by kernel_rfl) rfl #[.int .i64 a1] rfl (by (try simp only [List.map_toArray, List.map_cons, List.map_nil]); first | done | rfl | (simp only [List.length_drop, List.length_take]; rfl)) ?_; (with_reducible refine (percent_extra.calls a1 t410 false _ A3.out).mono ?_); rintro e w' ⟨rfl, ⟨nd, rfl⟩⟩; refine ⟨_, rfl, ?_⟩))
    go_ret
    exact ⟨by first | rfl | (simp; done) | (simp [*]; done), by repeat (first | exact Drawn0.refl _ | apply Drawn0.step)⟩
end Go.Proofs.YtcmcopieagpppaaGreatDoor.P
