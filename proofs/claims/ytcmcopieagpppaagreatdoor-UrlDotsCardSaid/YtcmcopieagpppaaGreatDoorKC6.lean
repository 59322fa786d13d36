/- A part of the proof of the statement C: what is proved here of the program serves its last text; its conditions stand in the theorems. -/
import Derived.Test.YtcmcopieagpppaaGreatDoorKC2
import Derived.Test.YtcmcopieagpppaaGreatDoorKC5
import Derived.Deep.DeepHandedRow
import Derived.Deep.DeepWitnessRowRef
import Derived.Lib.LaidIn
import Derived.Lib.LaidU8T
import Derived.OpenShut
import Derived.ProofKit
import Derived.ShutString
import Derived.SizedLaws
import Derived.Test.YtcmcopieagpppaaGreatDoorCards
import Derived.Test.YtcmcopieagpppaaGreatDoorTie
import Derived.WalkKit
namespace Go.Proofs.YtcmcopieagpppaaGreatDoor.Wit
open Go.ChangeShapes Go.WideShapes Go.ChangeAt Go.RowKit Go.Lib
set_option linter.unusedVariables false
theorem own : ownKnob Tryz.prog.godebug = none := by kernel_rfl
abbrev laid : List (String × DataW Unit) := [("unicode/utf8.acceptRanges", Rows.laid_unicode_utf8_acceptRanges), ("unicode/utf8.first", Rows.laid_unicode_utf8_first)]
theorem accept_same : (Rows.laid_unicode_utf8_acceptRanges : DataW Unit) = Lib.acceptData := by kernel_rfl
theorem first_same : (Rows.laid_unicode_utf8_first : DataW Unit) = Lib.firstData := by kernel_rfl
theorem tabs {W : World} (hL : laidMetH Tryz.prog laid W) (hsh : W.ShapedOpen Tryz.prog) : P.Tabs W := by
  have hL' : laidMet Tryz.prog laid W := hL
  have r1 := Lib.laidMet.reads hL' (.head _)
  have r2 := Lib.laidMet.reads hL' (.tail _ (.head _))
  rw [accept_same] at r1
  rw [first_same] at r2
  obtain ⟨m, hm⟩ : ∃ m, W.cell? ⟨2, 0, none⟩ = some (.int .i64 m) := Tryz.laysM219.s1_3 W hsh
  exact ⟨utf8Tabs_of_readsT (U8Types.of196 Tryz.lays196) ⟨by kernel_rfl, by kernel_rfl, by kernel_rfl, by kernel_rfl, by kernel_rfl, by kernel_rfl, by kernel_rfl⟩ r2 r1, ⟨m, hm⟩, World.block_lt_of_cell? W _ hm⟩
noncomputable def laidWorld (os : Os) : World :=
  let w0 := World.holding Tryz.prog os ⟨#[], #[], []⟩
  let put (h : Array Obj) (g : Nat) (cs : Array Value) : Array Obj := h.modify g fun
    | .cells _ t frozen => .cells cs t frozen
    | o => o
  let h1 := put w0.heap 0 (Lib.firstTab.map fun z => Value.int .u8 z).toArray
  let h2 := put h1 1 ((List.range 16).flatMap fun i => [Value.int .u8 (Lib.accLo i), Value.int .u8 (Lib.accHi i)]).toArray
  { w0 with heap := h2 }
theorem laid_met (os : Os) (args : Array Value) : laidMet Tryz.prog laid ((laidWorld os).forCall (fun _ _ => 0) ⟨#[], args, []⟩).memory :=
  (LaidIn.of_run (l := laid) [1, 0] 8 (by kernel_rfl) (by kernel_rfl) (by kernel_rfl) (by kernel_rfl)).met
end Go.Proofs.YtcmcopieagpppaaGreatDoor.Wit
namespace Go.Proofs.YtcmcopieagpppaaGreatDoor.P
open Go.RowKit Go.Proofs.YtcmcopieagpppaaGreatDoorW.PrintWords Go.Proofs.YtcmcopieagpppaaGreatDoorW.PrintLast Go.Proofs.YtcmcopieagpppaaGreatDoorW.PrintMore
set_option linter.unusedVariables false
set_option linter.unusedSimpArgs false
theorem read_facts {s : ByteArray} {x0 x1 x2 x3 : ByteArray} {x4 : Int} {x5 : ByteArray} {x6 : Bool} {x7 : ByteArray} {x8 : Bool} {x9 : ByteArray} (hs : s.size ≤ 3000) (h : Web.parse (bs s) = some (urlU x0 x1 x2 x3 x4 x5 x6 x7 x8 x9)) :
    -1 ≤ x4 ∧ x4 ≤ 65535 ∧ x0.size + x1.size + x2.size + x3.size + x5.size + x7.size + x9.size ≤ 1000000 ∧ x0.size ≤ 5 ∧ x3.size ≤ 3083 := by
  obtain ⟨d, g, sh⟩ := url_good (parse_some h)
  have hp := g.port
  obtain ⟨_, _, _, _, h0⟩ := port_facts g.sch
  have h1 : x1.size ≤ 3 * (bs s).length := by have := sh.user; rw [← bs_len]; exact this
  have h2 : x2.size ≤ 3 * (bs s).length := by have := sh.pass; rw [← bs_len]; exact this
  have h3 : x3.size ≤ (bs s).length + 83 := by have := sh.host; rw [← bs_len]; exact this
  have h5 : x5.size ≤ 3 * (bs s).length + 3 := by have := sh.path; rw [← bs_len]; exact this
  have h7 : x7.size ≤ 3 * (bs s).length := by have := sh.query; rw [← bs_len]; exact this
  have h9 : x9.size ≤ 3 * (bs s).length := by have := sh.frag; rw [← bs_len]; exact this
  have h0' : x0.size ≤ 5 := by rw [← bs_len]; exact h0
  rw [bs_len] at h1 h2 h3 h5 h7 h9
  have hp' : x4 = -1 ∨ ∃ n : Nat, x4 = (n : Int) ∧ n ≤ 65535 ∧ n ≠ d := hp
  have : -1 ≤ x4 ∧ x4 ≤ 65535 := by rcases hp' with h | ⟨n, h, h2, _⟩ <;> omega
  exact ⟨this.1, this.2, by omega, h0', by omega⟩
theorem first_byte (x : ByteArray) (t : List UInt8) (c : UInt8) (h : bs x = c :: t) : ∃ hx : 0 < x.size, x[0] = c := by
  have hl := congrArg List.length h
  rw [bs_len, List.length_cons] at hl
  refine ⟨by omega, ?_⟩
  have := bs_get x 0 (by omega)
  rw [h] at this
  exact (Option.some.inj this).symm
set_option maxRecDepth 100000 in
set_option maxHeartbeats 4000000 in
theorem urlBack_walk (s : ByteArray) (w : World) (hT : Tabs w) (hm : s.size ≤ 140737488351232) : Calls Tryz.prog 6 #[.string s] w fun e w' => e = .returned (.bool true) ∧ Below w.heap.size w w' := by
  have HT := Lib.hid hT
  have heq := url_eql
  clear hT
  by_cases c1 : 3000 < s.size
  · have c1' : decide (3000 < (s.size : Int)) = true := decide_eq_true (by omega)
    go_enter Tryz.func6, Tryz.ntmps6
    go_wp2_with fail
    refine (awake11 _ HT.out).mono ?_
    rintro e w1 ⟨rfl, b1⟩
    have B1 := Lib.hid b1
    clear b1
    go_wp2_with fail
    go_ret
    exact ⟨rfl, B1.out⟩
  · have c1' : decide (3000 < (s.size : Int)) = false := decide_eq_false (by omega)
    obtain ⟨x0, x1, x2, x3, x4, x5, x6, x7, x8, x9, n, eo, HC, -⟩ := urlR_open (Web.parse (bs s))
    have P1 := Lib.hid (fun W (h : Tabs W) => url_parse_walk s W h)
    rw [eo] at P1
    clear eo
    rcases HC.out with ⟨ho, rfl, rfl, rfl, rfl, rfl, rfl, rfl, rfl, rfl, rfl, rfl⟩ | ⟨ho, rfl⟩
    · clear ho HC
      go_enter Tryz.func6, Tryz.ntmps6
      go_wp2_with fail
      refine (P1.out _ HT.out).mono ?_
      rintro e w1 ⟨rfl, b1⟩
      have B1 := Lib.hid b1
      have T1 := Lib.hid (HT.out.below b1)
      clear b1 HT P1
      go_upto_region 4 with (fail)
      obtain ⟨w2, g2, ew, eg, K2, B2, T2, -⟩ := UK.make ⟨#[]⟩ ⟨#[]⟩ ⟨#[]⟩ ⟨#[]⟩ 0 ⟨#[]⟩ false ⟨#[]⟩ false ⟨#[]⟩ B1.out T1.out
      rw [ew, eg]
      clear ew eg B1 T1
      obtain ⟨zc0, zc1, zc2, zc3, zc4, zc5, zc6, zc7, zc8, zc9⟩ := K2.out.cells
      go_wp2_with fail
      refine (awake11 _ T2.out).mono ?_
      rintro e w3 ⟨rfl, b3⟩
      have B3 := Lib.hid (below_step B2.out b3)
      clear b3
      go_wp2_with fail
      go_ret
      exact ⟨rfl, B3.out⟩
    · obtain ⟨f1, f2, f3, _, _⟩ := read_facts (by omega) ho
      obtain ⟨pb, ⟨pt, ph⟩, hn⟩ := parse_back (by rw [bs_len]; omega) ho
      obtain ⟨hx5, e5⟩ := first_byte x5 pt 47 ph
      have e5' : ((x5[0].toNat : Int)) = 47 := by rw [e5]; rfl
      have z5 : x5.toList.isEmpty = false := by rw [bs_toList, List.isEmpty_eq_false_iff, show bs x5 = 47 :: pt from ph]; simp
      have z3 : x3.toList.isEmpty = false := by rw [bs_toList, List.isEmpty_eq_false_iff]; exact hn
      have PB := Lib.hid pb
      have T1w := Lib.hid (fun W => text_walk x0 x1 x2 x3 x4 x5 x6 x7 x8 x9 W f1 f2 f3)
      unfold urlA at T1w
      clear ho HC pb ph e5 hn f1 f2 f3
      go_enter Tryz.func6, Tryz.ntmps6
      go_wp2_with fail
      refine (P1.out _ HT.out).mono ?_
      rintro e w1 ⟨rfl, b1⟩
      have B1 := Lib.hid b1
      have T1 := Lib.hid (HT.out.below b1)
      clear b1 HT P1
      go_upto_region 4 with (fail)
      obtain ⟨w2, g2, ew, eg, K2, B2, T2, -⟩ := UK.make x0 x1 x2 x3 x4 x5 x6 x7 x8 x9 B1.out T1.out
      rw [ew, eg]
      clear ew eg B1 T1
      obtain ⟨zc0, zc1, zc2, zc3, zc4, zc5, zc6, zc7, zc8, zc9⟩ := K2.out.cells
      go_wp2_with fail
      refine (T1w.out _).mono ?_
      rintro e w3 ⟨t, rfl, HTX, b3⟩
      have B3 := Lib.hid (below_step B2.out b3)
      have T3 := Lib.hid (T2.out.below b3)
      have K3 := Lib.hid (K2.out.below b3)
      clear b3 K2 B2 T2 T1w zc0 zc1 zc2 zc3 zc4 zc5 zc6 zc7 zc8 zc9
      have P2 := Lib.hid (fun W (h : Tabs W) => url_parse_walk t W h)
      have er : urlR (Web.parse (bs t)) = .tuple #[.agg #[.string x0, .string x1, .string x2, .string x3, .int .i64 x4, .string x5, .bool x6, .string x7, .bool x8, .string x9], .int .i64 0] := by
        rw [HTX.out, PB.out]
        rfl
      rw [er] at P2
      clear er PB HTX
      go_wp2_with fail
      refine (P2.out _ T3.out).mono ?_
      rintro e w4 ⟨rfl, b4⟩
      have B4 := Lib.hid (below_step B3.out b4)
      have T4 := Lib.hid (T3.out.below b4)
      have K4 := Lib.hid (K3.out.below b4)
      clear b4 K3 B3 T3 P2
      go_upto_region 7 with (fail)
      obtain ⟨w5, g5, ew, eg, J5, B5, T5, b5⟩ := UK.make x0 x1 x2 x3 x4 x5 x6 x7 x8 x9 B4.out T4.out
      rw [ew, eg]
      have K5 := Lib.hid (K4.out.below b5)
      clear ew eg B4 T4 K4 b5
      obtain ⟨zc0, zc1, zc2, zc3, zc4, zc5, zc6, zc7, zc8, zc9⟩ := K5.out.cells
      obtain ⟨zd0, zd1, zd2, zd3, zd4, zd5, zd6, zd7, zd8, zd9⟩ := J5.out.cells
      go_wp2_with fail
      refine (awake11 _ T5.out).mono ?_
      rintro e w6 ⟨rfl, b6⟩
      have B6 := Lib.hid (below_step B5.out b6)
      clear b6
      go_wp2_with fail
      go_ret
      exact ⟨rfl, B6.out⟩
end Go.Proofs.YtcmcopieagpppaaGreatDoor.P
namespace Go.Proofs.YtcmcopieagpppaaGreatDoor.P
open Go.RowKit Go.Proofs.YtcmcopieagpppaaGreatDoorW.PrintWords Go.Proofs.YtcmcopieagpppaaGreatDoorW.PrintLast Go.Proofs.YtcmcopieagpppaaGreatDoorW.PrintMore
attribute [local go_sem] max2_int min2_int max_two min_two max_three min_three max_four min_four
set_option linter.unusedVariables false
set_option linter.unusedSimpArgs false
def parapetlaw11_decimal.l0 : Nat → Int → ByteArray → Option (ByteArray)
  | 0, _, _ => none
  | k + 1, x0, x3 => (some (([(wrap64 (48 + (Int.tmod x0 10))) % 256] : List Int) : List Int)).bind fun y445 => (if (strOfNums y445).size + x3.size ≤ 9223372036854775807 then (if (wrap64 (Int.tdiv x0 10)) = 0 then (some ((strOfNums y445) ++ x3)) else (parapetlaw11_decimal.l0 k (wrap64 (Int.tdiv x0 10)) ((strOfNums y445) ++ x3))) else (none))
def parapetlaw11_decimal.f (k : Nat) (a0 : Int) : Option (ByteArray) := parapetlaw11_decimal.l0 k a0 (⟨#[]⟩ : ByteArray)
set_option maxHeartbeats 8000000 in
set_option maxRecDepth 100000 in
theorem parapetlaw11_decimal.calls (k : Nat) (a0 : Int) (r : ByteArray) (w : World) (h : parapetlaw11_decimal.f k a0 = some r) :
    Calls Tryz.prog 33 #[.int .i64 a0] w fun e w' => e = .returned (.string r) ∧ Below w.heap.size w w' := by
  have HB := Aside0.mk (Below.refl w.heap.size w)
  have H : (parapetlaw11_decimal.l0 k a0 (⟨#[]⟩ : ByteArray)) = some r := h
  clear h
  have H' := Aside0.mk H
  clear H
  go_enter Tryz.func33, Tryz.ntmps33
  go_wp2
  go_loopg [0, 3] k (fun kq v0 v3 w' => ∃ (x0_1 : Int) (x3_1 : ByteArray), v0 = .int .i64 x0_1 ∧ v3 = .string x3_1 ∧ Aside0 (parapetlaw11_decimal.l0 kq x0_1 x3_1 = some r) ∧ Aside0 (kq ≤ k) ∧ Aside0 (Below w.heap.size w w'))
  case atStart => exact ⟨(a0), ((⟨#[]⟩ : ByteArray)), (by first | rfl | (simp; done) | (simp [*]; done)), (by first | rfl | (simp; done) | (simp [*]; done)), H', ⟨Nat.le_refl _⟩, ⟨by repeat (first | (with_reducible first | exact HB.out | apply below_alloc | apply pw_below_drewN | apply below_drew1) | exact HB.out)⟩⟩
  case round =>
    clear H'
    obtain ⟨x0_1, x3_1, rfl, rfl, HA, HK1, HB⟩ := hrel
    cases gk with
    | zero => exact absurd HA.out (by simp [parapetlaw11_decimal.l0])
    | succ k1 =>
      have H := HA.out
      clear HA
      simp only [parapetlaw11_decimal.l0] at H
      obtain ⟨y445, hy445⟩ : ∃ y_ : List Int, y_ = (([(wrap64 (48 + (Int.tmod x0_1 10))) % 256] : List Int)) := ⟨_, rfl⟩
      replace H : (if (strOfNums y445).size + x3_1.size ≤ 9223372036854775807 then (if (wrap64 (Int.tdiv x0_1 10)) = 0 then (some ((strOfNums y445) ++ x3_1)) else (parapetlaw11_decimal.l0 k1 (wrap64 (Int.tdiv x0_1 10)) ((strOfNums y445) ++ x3_1))) else (none)) = some r := by first | (rw [hy445]; with_reducible exact H) | (have H2_ := (Option.bind_some _ _).symm.trans H; rw [hy445]; with_reducible exact H2_) | (have H2_ := (Option.bind_some _ _).symm.trans H; with_reducible exact H2_) | with_reducible exact H | (rw [hy445]; exact H) | exact H
      have Ny445 := Aside0.mk hy445
      clear hy445
      by_cases c2 : (strOfNums y445).size + x3_1.size ≤ 9223372036854775807
      · rw [if_pos c2] at H
        have c2b0 := eq_true c2
        have c2b1 : decide ((strOfNums y445).size + x3_1.size ≤ 9223372036854775807) = true := decide_eq_true c2
        try have c2b2 : (9223372036854775807 < (strOfNums y445).size + x3_1.size) = False := eq_false (Nat.not_lt.2 c2)
        by_cases c3 : (wrap64 (Int.tdiv x0_1 10)) = 0
        · rw [if_pos c3] at H
          have c3b0 : ((wrap64 (Int.tdiv x0_1 10)) == 0) = true := beq_iff_eq.mpr c3
          have c3b1 : ((wrap64 (Int.tdiv x0_1 10)) != 0) = false := bne_eq_false_iff_eq.mpr c3
          clear c3
          obtain rfl := Option.some.inj H
          go_wp2_with (first | ((with_reducible refine gate_dst (N := 8) rfl ?_); refine Kd.R_lit (Kd.int .u8) _ 5 ?hg (N := 8) ?hd (xs := ([(wrap64 (48 + (Int.tmod x0_1 10))) % 256] : List Int)) (inner := [.int .u8 ((wrap64 (48 + (Int.tmod x0_1 10))) % 256)]) (ok := fun _ => True) (okp := fun _ => True) ?hr ?hp (fun _ hk => hk) trivial (Below.refl _ _) (Nat.le_refl _) (by simp) ?_; (case hd => rfl); (case hg => rfl); (case hr => first | (go_simp; done) | (go_simp; rfl)); (case hp => exact (Reps.one (show Kd.M (Kd.int .u8) _ _ _ ((wrap64 (48 + (Int.tmod x0_1 10))) % 256) [.int .u8 ((wrap64 (48 + (Int.tmod x0_1 10))) % 256)] from rfl) (Reps.none _ _))); intro v446 w4 ho5 hb hg_ hnew_; clear hg_ hnew_; (first | rw [← Ny445.out] at ho5 | (simp only [Int.reduceToNat] at ho5; rw [← Ny445.out] at ho5)); have n0_ := Aside0.mk (Kd.R_lower ho5 (below_size (by repeat (first | (with_reducible first | exact HB.out | apply below_alloc | apply pw_below_drewN | apply below_drew1) | exact HB.out)))); have n1_ := Aside0.mk (below_step (by repeat (first | (with_reducible first | exact HB.out | apply below_alloc | apply pw_below_drewN | apply below_drew1) | exact HB.out)) hb); clear HB; have HO447 := n0_; have HB := n1_; clear n0_ n1_; clear hb ho5; have hcv6 := own_string (P := Tryz.prog) Tryz.underlying46 Tryz.underlying5 Tryz.underlying9 (Kd.own_of_R HO447.out)))
          go_ret
          exact ⟨by first | rfl | (simp [errW_none, errW_some] <;> rfl) | (simp [*, errW_none, errW_some] <;> rfl), by repeat (first | (with_reducible first | exact HB.out | apply below_alloc | apply pw_below_drewN | apply below_drew1) | exact HB.out)⟩
        · rw [if_neg c3] at H
          have c3b0 : ((wrap64 (Int.tdiv x0_1 10)) == 0) = false := beq_eq_false_iff_ne.mpr c3
          have c3b1 : ((wrap64 (Int.tdiv x0_1 10)) != 0) = true := bne_iff_ne.mpr c3
          have H' := Aside0.mk H
          clear H
          go_wp2_with (first | ((with_reducible refine gate_dst (N := 8) rfl ?_); refine Kd.R_lit (Kd.int .u8) _ 5 ?hg (N := 8) ?hd (xs := ([(wrap64 (48 + (Int.tmod x0_1 10))) % 256] : List Int)) (inner := [.int .u8 ((wrap64 (48 + (Int.tmod x0_1 10))) % 256)]) (ok := fun _ => True) (okp := fun _ => True) ?hr ?hp (fun _ hk => hk) trivial (Below.refl _ _) (Nat.le_refl _) (by simp) ?_; (case hd => rfl); (case hg => rfl); (case hr => first | (go_simp; done) | (go_simp; rfl)); (case hp => exact (Reps.one (show Kd.M (Kd.int .u8) _ _ _ ((wrap64 (48 + (Int.tmod x0_1 10))) % 256) [.int .u8 ((wrap64 (48 + (Int.tmod x0_1 10))) % 256)] from rfl) (Reps.none _ _))); intro v446 w7 ho8 hb hg_ hnew_; clear hg_ hnew_; (first | rw [← Ny445.out] at ho8 | (simp only [Int.reduceToNat] at ho8; rw [← Ny445.out] at ho8)); have n0_ := Aside0.mk (Kd.R_lower ho8 (below_size (by repeat (first | (with_reducible first | exact HB.out | apply below_alloc | apply pw_below_drewN | apply below_drew1) | exact HB.out)))); have n1_ := Aside0.mk (below_step (by repeat (first | (with_reducible first | exact HB.out | apply below_alloc | apply pw_below_drewN | apply below_drew1) | exact HB.out)) hb); clear HB; have HO447 := n0_; have HB := n1_; clear n0_ n1_; clear hb ho8; have hcv9 := own_string (P := Tryz.prog) Tryz.underlying46 Tryz.underlying5 Tryz.underlying9 (Kd.own_of_R HO447.out)))
          go_roundg k1
          case measure => have := HK1.out; omega
          case rel => exact ⟨(wrap64 (Int.tdiv x0_1 10)), ((strOfNums y445) ++ x3_1), (by first | rfl | (simp; done) | (simp [*]; done)), (by first | rfl | (simp; done) | (simp [*]; done)), H', ⟨by have := HK1.out; omega⟩, ⟨by repeat (first | (with_reducible first | exact HB.out | apply below_alloc | apply pw_below_drewN | apply below_drew1) | exact HB.out)⟩⟩
      · rw [if_neg c2] at H
        exact absurd H (by simp)
end Go.Proofs.YtcmcopieagpppaaGreatDoor.P
namespace Go.Proofs.YtcmcopieagpppaaGreatDoor.P
open Go.RowKit Go.Proofs.YtcmcopieagpppaaGreatDoorW.PrintWords Go.Proofs.YtcmcopieagpppaaGreatDoorW.PrintLast Go.Proofs.YtcmcopieagpppaaGreatDoorW.PrintMore
set_option linter.unusedVariables false
set_option linter.unusedSimpArgs false
theorem law_dig (n : Nat) (h : n ≤ 1000000) : strOfNums [(wrap64 (48 + (Int.tmod (n : Int) 10))) % 256] = ba [UInt8.ofNat (48 + n % 10)] := by
  have h1 : Int.tmod (n : Int) 10 = ((n % 10 : Nat) : Int) := by rw [Int.tmod_eq_emod_of_nonneg (by omega)]; omega
  have h2 : wrap64 (48 + ((n % 10 : Nat) : Int)) % 256 = ((48 + n % 10 : Nat) : Int) := by unfold wrap64; omega
  rw [h1, h2, strOfNums_one, Int.toNat_natCast]
  rfl
theorem law_dec : ∀ (m n k : Nat) (acc : List UInt8), n < 10 ^ m → n ≤ 1000000 → m ≤ k → 1 ≤ k → acc.length + m ≤ 1000 → parapetlaw11_decimal.l0 k (n : Int) (ba acc) = some (ba (Web.decimal n ++ acc)) := by
  intro m
  induction m with
  | zero =>
    intro n k acc hn hn2 hk h1 hl
    have : n = 0 := by omega
    subst this
    obtain ⟨k, rfl⟩ : ∃ j, k = j + 1 := ⟨k - 1, by omega⟩
    simp only [parapetlaw11_decimal.l0, Option.bind_some]
    rw [law_dig 0 (by omega), if_pos (by rw [ba_size, ba_size]; simp; omega), if_pos (by rw [show Int.tdiv ((0 : Nat) : Int) 10 = 0 from rfl]; unfold wrap64; omega), ba_append, decimal_zero]
    rfl
  | succ m ih =>
    intro n k acc hn hn2 hk h1 hl
    obtain ⟨k, rfl⟩ : ∃ j, k = j + 1 := ⟨k - 1, by omega⟩
    have ht : wrap64 (Int.tdiv (n : Int) 10) = ((n / 10 : Nat) : Int) := by
      rw [Int.tdiv_eq_ediv_of_nonneg (by omega)]
      unfold wrap64
      omega
    simp only [parapetlaw11_decimal.l0, Option.bind_some]
    rw [law_dig n hn2, ht, if_pos (by rw [ba_size, ba_size]; simp; omega)]
    by_cases h : n < 10
    · rw [if_pos (by omega), ba_append, decimal_small n h]
      have : n % 10 = n := by omega
      rw [this]
    · rw [if_neg (by omega), ba_append]
      have hm : 1 ≤ m := by
        by_cases hm : m = 0
        · subst hm; omega
        · omega
      rw [ih (n / 10) k ([UInt8.ofNat (48 + n % 10)] ++ acc) (by rw [Nat.pow_succ] at hn; omega) (by omega) (by omega) (by omega) (by simp only [List.length_append, List.length_cons, List.length_nil]; omega)]
      rw [decimal_step n h, List.append_assoc]
theorem law_decimal_c (x : Int) (w : World) (h0 : 0 ≤ x) (h1 : x ≤ 70000) :
    Calls Tryz.prog 33 #[.int .i64 x] w fun e w' => ∃ d : ByteArray, e = .returned (.string d) ∧ Hid (bs d = Web.decimal x.toNat) ∧ d.size ≤ 20 ∧ Below w.heap.size w w' := by
  obtain ⟨n, rfl⟩ := Int.eq_ofNat_of_zero_le h0
  have hn : n ≤ 70000 := by simpa using Int.ofNat_le.1 h1
  have h := law_dec 6 n 10 [] (by omega) (by omega) (by omega) (by omega) (by simp)
  rw [List.append_nil] at h
  refine (parapetlaw11_decimal.calls 10 (n : Int) _ w h).mono ?_
  rintro e w' ⟨rfl, hb⟩
  exact ⟨_, rfl, Lib.hid rfl, by rw [ba_size]; exact decimal_len n (by omega), hb⟩
set_option maxRecDepth 100000 in
set_option maxHeartbeats 4000000 in
theorem urlParts_walk (port : Int) (us q f sec : Bool) (w : World) (hT : Tabs w) (hk : (Lit.int .i64 port).wf = true) : Calls Tryz.prog 9 #[.int .i64 port, .bool us, .bool q, .bool f, .bool sec] w fun e w' => e = .returned (.bool true) ∧ Below w.heap.size w w' := by
  have HT := Lib.hid hT
  have heq := url_eql
  clear hT hk
  by_cases c0 : port < 0
  · have c0' : decide (port < 0) = true := decide_eq_true c0
    go_enter Tryz.func9, Tryz.ntmps9
    go_wp2_with fail
    refine (awake11 _ HT.out).mono ?_
    rintro e w1 ⟨rfl, b1⟩
    have B1 := Lib.hid b1
    clear b1
    go_wp2_with fail
    go_ret
    exact ⟨rfl, B1.out⟩
  have c0' : decide (port < 0) = false := decide_eq_false c0
  by_cases c1 : 70000 < port
  · have c1' : decide (70000 < port) = true := decide_eq_true c1
    go_enter Tryz.func9, Tryz.ntmps9
    go_wp2_with fail
    refine (awake11 _ HT.out).mono ?_
    rintro e w1 ⟨rfl, b1⟩
    have B1 := Lib.hid b1
    clear b1
    go_wp2_with fail
    go_ret
    exact ⟨rfl, B1.out⟩
  have c1' : decide (70000 < port) = false := decide_eq_false c1
  obtain ⟨n, rfl⟩ := Int.eq_ofNat_of_zero_le (show 0 ≤ port by omega)
  have hn : n ≤ 70000 := by omega
  clear c0 c1
  have y1 : (⟨#[58, 47, 47]⟩ : ByteArray).size = 3 := rfl
  have y2 : (⟨#[117, 58, 112, 64]⟩ : ByteArray).size = 4 := rfl
  have y3 : (⟨#[104, 46, 120, 58, 48, 48]⟩ : ByteArray).size = 6 := rfl
  have y4 : (⟨#[47, 97]⟩ : ByteArray).size = 2 := rfl
  have y5 : (⟨#[63, 113]⟩ : ByteArray).size = 2 := rfl
  have y6 : (⟨#[35, 102]⟩ : ByteArray).size = 2 := rfl
  have B0 := Lib.hid (Below.refl w.heap.size w)
  go_enter Tryz.func9, Tryz.ntmps9
  go_upto_if 24 with (fail)
  clear c0' c1'
  go_cut [11, 12] (fun v11 v12 wc => w = wc ∧ ∃ sc : ByteArray, v11 = .string sc ∧ v12 = .int .i64 (schD sec : Int) ∧ Hid (bs sc = schT sec) ∧ sc.size ≤ 5)
  case first =>
    cases sec
    · go_wp2_with fail
      go_meet
      case rel => exact ⟨rfl, _, rfl, rfl, Lib.hid rfl, by decide⟩
    · go_wp2_with fail
      go_meet
      case rel => exact ⟨rfl, _, rfl, rfl, Lib.hid rfl, by decide⟩
  case rest =>
    obtain ⟨rfl, sc, rfl, rfl, HS, hsc⟩ := hcut
    go_upto_if 27 with (fail)
    go_cut [13] (fun v13 wd => w = wd ∧ ∃ t : ByteArray, v13 = .string t ∧ Hid (bs t = schT sec ++ ([58, 47, 47] ++ userText (uT us 117) (uT us 112))) ∧ t.size ≤ 20)
    case first =>
      cases us
      · go_wp2_with fail
        go_meet
        case rel => exact ⟨rfl, _, rfl, Lib.hid (by rw [bs_app, HS.out]; simp [userText, uT, bs_lit]), by rw [ByteArray.size_append]; omega⟩
      · go_wp2_with fail
        go_meet
        case rel => exact ⟨rfl, _, rfl, Lib.hid (by rw [bs_app, bs_app, HS.out]; simp [userText, uT, bs_lit]), by rw [ByteArray.size_append, ByteArray.size_append]; omega⟩
    case rest =>
      obtain ⟨rfl, t, rfl, HTT, ht⟩ := hcut
      go_wp2_with fail
      refine (law_decimal_c (n : Int) _ (by omega) (by omega)).mono ?_
      rintro e w2 ⟨d, rfl, HD, hd, b2⟩
      have B2 := Lib.hid b2
      have T2 := Lib.hid (HT.out.below b2)
      clear b2
      go_upto_if 36 with (fail)
      have e2 : bs (t ++ (⟨#[104, 46, 120, 58, 48, 48]⟩ : ByteArray) ++ d ++ (⟨#[47, 97]⟩ : ByteArray)) = schT sec ++ 58 :: (47 :: 47 :: (partsA us n ++ [47, 97])) := by
        rw [bs_app, bs_app, bs_app, HTT.out, HD.out]
        unfold partsA
        simp [bs_lit, Int.toNat_natCast]
      have s2 : (t ++ (⟨#[104, 46, 120, 58, 48, 48]⟩ : ByteArray) ++ d ++ (⟨#[47, 97]⟩ : ByteArray)).size ≤ 50 := by simp only [ByteArray.size_append, y3, y4]; omega
      generalize t ++ (⟨#[104, 46, 120, 58, 48, 48]⟩ : ByteArray) ++ d ++ (⟨#[47, 97]⟩ : ByteArray) = t2 at e2 s2 ⊢
      have E2 := Lib.hid e2
      clear e2
      go_cut [13] (fun v13 wc => w2 = wc ∧ ∃ t : ByteArray, v13 = .string t ∧ Hid (bs t = schT sec ++ 58 :: (47 :: 47 :: (partsA us n ++ ([47, 97] ++ qT q [63, 113])))) ∧ t.size ≤ 60)
      case first =>
        cases q
        · go_wp2_with fail
          go_meet
          case rel => exact ⟨rfl, _, rfl, Lib.hid (by rw [E2.out]; simp [qT]), by omega⟩
        · go_wp2_with fail
          go_meet
          case rel => exact ⟨rfl, _, rfl, Lib.hid (by rw [bs_app, E2.out]; simp [qT, bs_lit]), by rw [ByteArray.size_append]; omega⟩
      case rest =>
        obtain ⟨rfl, t3, rfl, H3, hs3⟩ := hcut
        go_upto_if 39 with (fail)
        go_cut [13] (fun v13 wd => w2 = wd ∧ ∃ t : ByteArray, v13 = .string t ∧ Hid (bs t = partsT sec us q f n))
        case first =>
          cases f
          · go_wp2_with fail
            go_meet
            case rel => exact ⟨rfl, _, rfl, Lib.hid (by rw [H3.out]; simp [qT, partsT])⟩
          · go_wp2_with fail
            go_meet
            case rel => exact ⟨rfl, _, rfl, Lib.hid (by rw [bs_app, H3.out]; simp [qT, bs_lit, partsT])⟩
        case rest =>
          obtain ⟨rfl, t4, rfl, H4⟩ := hcut
          have P1 := Lib.hid (fun W (h : Tabs W) => url_parse_walk t4 W h)
          have pp := parts_parse sec us q f n hn
          rw [← H4.out] at pp
          by_cases c2 : 65535 < n
          · have c2' : decide ((65535 : Int) < (n : Int)) = true := decide_eq_true (by omega)
            rw [if_pos c2] at pp
            rw [pp] at P1
            have P1 : Hid (∀ W, Tabs W → Calls Tryz.prog 22 #[.string t4] W fun e w' => e = .returned (.tuple #[.agg #[.string ⟨#[]⟩, .string ⟨#[]⟩, .string ⟨#[]⟩, .string ⟨#[]⟩, .int .i64 0, .string ⟨#[]⟩, .bool false, .string ⟨#[]⟩, .bool false, .string ⟨#[]⟩], .int .i64 8]) ∧ Below W.heap.size W w') := P1
            clear pp c2
            go_wp2_with fail
            refine (P1.out _ T2.out).mono ?_
            rintro e w5 ⟨rfl, b5⟩
            have B5 := Lib.hid (below_step B2.out b5)
            have T5 := Lib.hid (T2.out.below b5)
            clear b5 B2 T2
            go_upto_region 17 with (fail)
            obtain ⟨w6, g6, ew, eg, K6, B6, T6, -⟩ := UK.make ⟨#[]⟩ ⟨#[]⟩ ⟨#[]⟩ ⟨#[]⟩ 0 ⟨#[]⟩ false ⟨#[]⟩ false ⟨#[]⟩ B5.out T5.out
            rw [ew, eg]
            clear ew eg B5 T5
            go_wp2_with fail
            refine (awake11 _ T6.out).mono ?_
            rintro e w7 ⟨rfl, b7⟩
            have B7 := Lib.hid (below_step B6.out b7)
            clear b7
            go_wp2_with fail
            go_ret
            exact ⟨rfl, B7.out⟩
          · have c2' : decide ((65535 : Int) < (n : Int)) = false := decide_eq_false (by omega)
            rw [if_neg c2] at pp
            rw [pp] at P1
            obtain ⟨x0, hx0⟩ : ∃ x, x = ba (schT sec) := ⟨_, rfl⟩
            obtain ⟨x1, hx1⟩ : ∃ x, x = ba (uT us 117) := ⟨_, rfl⟩
            obtain ⟨x2, hx2⟩ : ∃ x, x = ba (uT us 112) := ⟨_, rfl⟩
            obtain ⟨x4, hx4⟩ : ∃ x : Int, x = if n = schD sec then -1 else (n : Int) := ⟨_, rfl⟩
            obtain ⟨x7, hx7⟩ : ∃ x, x = ba (uT q 113) := ⟨_, rfl⟩
            obtain ⟨x9, hx9⟩ : ∃ x, x = ba (uT f 102) := ⟨_, rfl⟩
            have P1 : Hid (∀ W, Tabs W → Calls Tryz.prog 22 #[.string t4] W fun e w' => e = .returned (.tuple #[.agg #[.string x0, .string x1, .string x2, .string ⟨#[104, 46, 120]⟩, .int .i64 x4, .string ⟨#[47, 97]⟩, .bool q, .string x7, .bool f, .string x9], .int .i64 0]) ∧ Below W.heap.size W w') := by
              rw [hx0, hx1, hx2, hx4, hx7, hx9]
              exact P1
            have hsc2 : sc = x0 := by rw [hx0]; exact bs_inj HS.out
            subst hsc2
            have PT := Lib.hid (parts_port sec us q f n)
            have X1 := Lib.hid hx1; have X2 := Lib.hid hx2; have X4 := Lib.hid hx4; have X7 := Lib.hid hx7; have X9 := Lib.hid hx9
            have PC := Lib.hid (fun W => port_c sc x1 x2 ⟨#[104, 46, 120]⟩ x4 ⟨#[47, 97]⟩ q x7 f x9 W)
            have epc : (if x4 = -1 then (portP (bs sc)).1 else x4) = (n : Int) := by
              have := PT.out
              unfold portU at this
              rw [X4.out, HS.out]
              exact this
            rw [epc] at PC
            clear pp c2 hx0 hx1 hx2 hx4 hx7 hx9 epc PT
            go_wp2_with fail
            refine (P1.out _ T2.out).mono ?_
            rintro e w5 ⟨rfl, b5⟩
            have B5 := Lib.hid (below_step B2.out b5)
            have T5 := Lib.hid (T2.out.below b5)
            clear b5 B2 T2 P1
            go_upto_region 17 with (fail)
            obtain ⟨w6, g6, ew, eg, K6, B6, T6, -⟩ := UK.make sc x1 x2 ⟨#[104, 46, 120]⟩ x4 ⟨#[47, 97]⟩ q x7 f x9 B5.out T5.out
            rw [ew, eg]
            clear ew eg B5 T5
            go_upto_if 61 with (fail)
            obtain ⟨w8, g8, ew, eg, J8, B8, T8, b8⟩ := UK.make sc ⟨#[]⟩ ⟨#[]⟩ ⟨#[104, 46, 120]⟩ (n : Int) ⟨#[47, 97]⟩ q ⟨#[]⟩ f ⟨#[]⟩ B6.out T6.out
            rw [ew, eg]
            have hw8 : w.heap.size ≤ g8 := by rw [← eg]; exact B6.out.size
            have K8 := Lib.hid (K6.out.below b8)
            have hg68 : g6 < g8 := by rw [← eg]; exact K6.out.lt
            have h38 : 3 ≤ g8 := by rw [← eg]; exact T6.out.2.2
            clear ew eg B6 T6 b8 K6
            have setp : ∀ (wa : World) (j : Nat) (v : Value), Hid (UK wa g6 sc x1 x2 ⟨#[104, 46, 120]⟩ x4 ⟨#[47, 97]⟩ q x7 f x9) → Hid (Below w.heap.size w wa) → Hid (Tabs wa) → Hid (UK (wa.setCell ⟨g8, j, none⟩ v) g6 sc x1 x2 ⟨#[104, 46, 120]⟩ x4 ⟨#[47, 97]⟩ q x7 f x9) ∧ Hid (Below w.heap.size w (wa.setCell ⟨g8, j, none⟩ v)) ∧ Hid (Tabs (wa.setCell ⟨g8, j, none⟩ v)) := fun wa j v hk hb ht => ⟨Lib.hid (blk_far hk.out (by show g6 ≠ g8; omega) v), Lib.hid (hb.out.setCell (p := ⟨g8, j, none⟩) hw8 v), Lib.hid (TabsTo ht.out ((Below.refl g8 wa).setCell (p := ⟨g8, j, none⟩) (Nat.le_refl _) v) h38)⟩
            have SP := Lib.hid setp
            clear setp
            go_cut [62] (fun _ wc => Hid (UK wc g6 sc x1 x2 ⟨#[104, 46, 120]⟩ x4 ⟨#[47, 97]⟩ q x7 f x9) ∧ Hid (UK wc g8 sc ⟨#[]⟩ ⟨#[]⟩ ⟨#[104, 46, 120]⟩ x4 ⟨#[47, 97]⟩ q ⟨#[]⟩ f ⟨#[]⟩) ∧ Hid (Below w.heap.size w wc) ∧ Hid (Tabs wc))
            case first =>
              by_cases c3 : n = schD sec
              · have c3' : ((n : Int) == (schD sec : Int)) = true := by rw [beq_iff_eq]; omega
                have e4 : x4 = -1 := by rw [X4.out, if_pos c3]
                have E4 := Lib.hid e4
                have q4 := J8.out.cells.2.2.2.2.1
                have f4 := J8.out.frozens.2.2.2.2.1
                clear c3 e4
                go_wp2_with fail
                go_meet
                case rel =>
                  obtain ⟨k1, k2, k3⟩ := SP.out _ 4 (.int .i64 (-1)) K8 B8 T8
                  exact ⟨k1, Lib.hid (by have := J8.out.set4 (-1); rw [E4.out]; exact this), k2, k3⟩
              · have c3' : ((n : Int) == (schD sec : Int)) = false := by rw [beq_eq_false_iff_ne]; omega
                have e4 : x4 = (n : Int) := by rw [X4.out, if_neg c3]
                have E4 := Lib.hid e4
                clear c3 e4
                go_wp2_with fail
                go_meet
                case rel => exact ⟨K8, Lib.hid (by rw [E4.out]; exact J8.out), B8, T8⟩
            case rest =>
              obtain ⟨K9, J9, B9, T9⟩ := hcut
              clear K8 J8 B8 T8
              obtain ⟨wb, rfl⟩ : ∃ wo : World, wo = wc := ⟨_, rfl⟩
              go_upto_if 63 with (fail)
              go_cut [64] (fun _ wc => Hid (UK wc g6 sc x1 x2 ⟨#[104, 46, 120]⟩ x4 ⟨#[47, 97]⟩ q x7 f x9) ∧ Hid (UK wc g8 sc x1 x2 ⟨#[104, 46, 120]⟩ x4 ⟨#[47, 97]⟩ q ⟨#[]⟩ f ⟨#[]⟩) ∧ Hid (Below w.heap.size w wc) ∧ Hid (Tabs wc))
              case first =>
                cases us
                · have e1 : x1 = ⟨#[]⟩ := by rw [X1.out]; rfl
                  have e2 : x2 = ⟨#[]⟩ := by rw [X2.out]; rfl
                  subst e1
                  subst e2
                  go_wp2_with fail
                  go_meet
                  case rel => exact ⟨K9, J9, B9, T9⟩
                · have e1 : x1 = ⟨#[117]⟩ := by rw [X1.out]; rfl
                  have e2 : x2 = ⟨#[112]⟩ := by rw [X2.out]; rfl
                  have E1 := Lib.hid e1; have E2' := Lib.hid e2
                  have q4 := J9.out.cells.2.1
                  have f4 := J9.out.frozens.2.1
                  have J10 := Lib.hid (J9.out.set1 ⟨#[117]⟩)
                  have q5 := J10.out.cells.2.2.1
                  have f5 := J10.out.frozens.2.2.1
                  have J11 := Lib.hid (J10.out.set2 ⟨#[112]⟩)
                  clear e1 e2
                  go_wp2_with fail
                  go_meet
                  case rel =>
                    obtain ⟨k1, k2, k3⟩ := SP.out _ 1 (.string ⟨#[117]⟩) K9 B9 T9
                    obtain ⟨k4, k5, k6⟩ := SP.out _ 2 (.string ⟨#[112]⟩) k1 k2 k3
                    exact ⟨k4, Lib.hid (by have := J11.out; rw [← E1.out] at this ⊢; rw [← E2'.out] at this ⊢; exact this), k5, k6⟩
              case rest =>
                obtain ⟨K12, J12, B12, T12⟩ := hcut
                clear K9 J9 B9 T9
                obtain ⟨wb2, rfl⟩ : ∃ wo : World, wo = wc := ⟨_, rfl⟩
                go_upto_if 66 with (fail)
                go_cut [67] (fun _ wc => Hid (UK wc g6 sc x1 x2 ⟨#[104, 46, 120]⟩ x4 ⟨#[47, 97]⟩ q x7 f x9) ∧ Hid (UK wc g8 sc x1 x2 ⟨#[104, 46, 120]⟩ x4 ⟨#[47, 97]⟩ q x7 f ⟨#[]⟩) ∧ Hid (Below w.heap.size w wc) ∧ Hid (Tabs wc))
                case first =>
                  cases q
                  · have e1 : x7 = ⟨#[]⟩ := by rw [X7.out]; rfl
                    subst e1
                    go_wp2_with fail
                    go_meet
                    case rel => exact ⟨K12, J12, B12, T12⟩
                  · have e1 : x7 = ⟨#[113]⟩ := by rw [X7.out]; rfl
                    have q4 := J12.out.cells.2.2.2.2.2.2.2.1
                    have f4 := J12.out.frozens.2.2.2.2.2.2.2.1
                    have E1 := Lib.hid e1
                    clear e1
                    go_wp2_with fail
                    go_meet
                    case rel =>
                      obtain ⟨k1, k2, k3⟩ := SP.out _ 7 (.string ⟨#[113]⟩) K12 B12 T12
                      exact ⟨k1, Lib.hid (by have := J12.out.set7 ⟨#[113]⟩; rw [← E1.out] at this ⊢; exact this), k2, k3⟩
                case rest =>
                  obtain ⟨K13, J13, B13, T13⟩ := hcut
                  clear K12 J12 B12 T12
                  obtain ⟨wb12, rfl⟩ : ∃ wo : World, wo = wc := ⟨_, rfl⟩
                  go_upto_if 68 with (fail)
                  go_cut [69] (fun _ wc => Hid (UK wc g6 sc x1 x2 ⟨#[104, 46, 120]⟩ x4 ⟨#[47, 97]⟩ q x7 f x9) ∧ Hid (UK wc g8 sc x1 x2 ⟨#[104, 46, 120]⟩ x4 ⟨#[47, 97]⟩ q x7 f x9) ∧ Hid (Below w.heap.size w wc) ∧ Hid (Tabs wc))
                  case first =>
                    cases f
                    · have e1 : x9 = ⟨#[]⟩ := by rw [X9.out]; rfl
                      subst e1
                      go_wp2_with fail
                      go_meet
                      case rel => exact ⟨K13, J13, B13, T13⟩
                    · have e1 : x9 = ⟨#[102]⟩ := by rw [X9.out]; rfl
                      have q4 := J13.out.cells.2.2.2.2.2.2.2.2.2
                      have f4 := J13.out.frozens.2.2.2.2.2.2.2.2.2
                      have E1 := Lib.hid e1
                      clear e1
                      go_wp2_with fail
                      go_meet
                      case rel =>
                        obtain ⟨k1, k2, k3⟩ := SP.out _ 9 (.string ⟨#[102]⟩) K13 B13 T13
                        exact ⟨k1, Lib.hid (by have := J13.out.set9 ⟨#[102]⟩; rw [← E1.out] at this ⊢; exact this), k2, k3⟩
                  case rest =>
                    obtain ⟨K14, J14, B14, T14⟩ := hcut
                    clear K13 J13 B13 T13
                    obtain ⟨wb13, rfl⟩ : ∃ wo : World, wo = wc := ⟨_, rfl⟩
                    obtain ⟨zc0, zc1, zc2, zc3, zc4, zc5, zc6, zc7, zc8, zc9⟩ := K14.out.cells
                    obtain ⟨zd0, zd1, zd2, zd3, zd4, zd5, zd6, zd7, zd8, zd9⟩ := J14.out.cells
                    go_wp2_with fail
                    refine (PC.out _).mono ?_
                    rintro e w20 ⟨rfl, b20⟩
                    have B20 := Lib.hid (below_step B14.out b20)
                    have T20 := Lib.hid (T14.out.below b20)
                    clear b20 B14 T14 zc0 zc1 zc2 zc3 zc4 zc5 zc6 zc7 zc8 zc9 zd0 zd1 zd2 zd3 zd4 zd5 zd6 zd7 zd8 zd9
                    go_wp2_with fail
                    refine (awake11 _ T20.out).mono ?_
                    rintro e w21 ⟨rfl, b21⟩
                    have B21 := Lib.hid (below_step B20.out b21)
                    clear b21
                    go_wp2_with fail
                    go_ret
                    exact ⟨rfl, B21.out⟩
end Go.Proofs.YtcmcopieagpppaaGreatDoor.P
