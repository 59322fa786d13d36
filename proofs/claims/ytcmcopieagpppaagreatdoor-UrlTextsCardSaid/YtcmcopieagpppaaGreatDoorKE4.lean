/- A part of the proof of the statement E: what is proved here of the program serves its last text; its conditions stand in the theorems. -/
import Derived.Test.YtcmcopieagpppaaGreatDoorKE2
import Derived.Test.YtcmcopieagpppaaGreatDoorKE3
import Derived.BigQuiet
import Derived.ChangeAlike
import Derived.Deep.QuietTactic
import Derived.Deep.WholeRow
import Derived.Defers
import Derived.Laws.IdiomCopy
import Derived.Laws.LoneSync
import Derived.Laws.OwnMore
import Derived.Laws.Pointers
import Derived.Lib.CountLaws
import Derived.Lib.CutLaws
import Derived.Lib.IndexBytes
import Derived.Lib.IndexMore
import Derived.Lib.Join
import Derived.Lib.MapLaws
import Derived.Lib.Replace
import Derived.Lib.TrimUEq
import Derived.RegionCalls
import Derived.RegionTactic
import Derived.Shelf.GgClosure.StringsTrimFunc
import Derived.Shelf.Unicode.ValidAny
import Derived.WalkSpells
namespace Go.Proofs.YtcmcopieagpppaaGreatDoor.P
open Go.RowKit Go.Proofs.YtcmcopieagpppaaGreatDoorW.PrintWords Go.Proofs.YtcmcopieagpppaaGreatDoorW.PrintLast Go.Proofs.YtcmcopieagpppaaGreatDoorW.PrintMore
attribute [local go_sem] max2_int min2_int max_two min_two max_three min_three max_four min_four
set_option linter.unusedVariables false
set_option linter.unusedSimpArgs false
def host_Parse.l0 : Nat → ByteArray → Int → Int → Option (ByteArray × Int)
  | 0, _, _, _ => none
  | k + 1, x4, x15, x16 => if x16 < x15 then (if 0 ≤ x16 then (if x16 < (x4.size : Int) then ((host_forbidden.f (bt x4 x16)).bind fun t430 => (if t430 = true then (some ((⟨#[]⟩ : ByteArray), 8)) else (host_Parse.l0 k x4 x15 (wrap64 (x16 + 1))))) else (none)) else (none)) else ((host_parts.f x4).bind fun t431 => (if 0 ≤ (wrap64 ((t431.length : Int) - 1)) then (if (wrap64 ((t431.length : Int) - 1)) < (t431.length : Int) then ((host_numeric.f k (rdOf ByteArray.empty t431 (wrap64 ((t431.length : Int) - 1)))).bind fun t435 => (if t435 = true then ((host_Number.f x4).bind fun bt436 => (if bt436.2 = true then ((host_Text.f bt436.1).bind fun t438 => (some (t438, 0))) else (some ((⟨#[]⟩ : ByteArray), 8)))) else (some (x4, 0)))) else (none)) else (none)))
def host_Parse.f (k : Nat) (a0 : ByteArray) : Option (ByteArray × Int) := (percent_Decode.f k a0).bind fun t428 => ((ascii_Lower.f t428).bind fun t429 => (if t429.toList = ([] : List UInt8) then (some ((⟨#[]⟩ : ByteArray), 8)) else (host_Parse.l0 k t429 (t429.size : Int) 0)))
set_option maxHeartbeats 8000000 in
set_option maxRecDepth 100000 in
theorem host_Parse.calls (k : Nat) (a0 : ByteArray) (r1 : ByteArray) (r2 : Int) (w : World) (h : host_Parse.f k a0 = some (r1, r2)) :
    Calls Tryz.prog 79 #[.string a0] w fun e w' => e = .returned (.tuple #[.string r1, .int .i64 r2]) ∧ Below w.heap.size w w' := by
  have HB := Aside0.mk (Below.refl w.heap.size w)
  have H : ((percent_Decode.f k a0).bind fun t428 => ((ascii_Lower.f t428).bind fun t429 => (if t429.toList = ([] : List UInt8) then (some ((⟨#[]⟩ : ByteArray), 8)) else (host_Parse.l0 k t429 (t429.size : Int) 0)))) = some (r1, r2) := h
  clear h
  replace H := Option.bind_eq_some_iff.mp H
  obtain ⟨t428, A20, H⟩ := H
  replace H : ((ascii_Lower.f t428).bind fun t429 => (if t429.toList = ([] : List UInt8) then (some ((⟨#[]⟩ : ByteArray), 8)) else (host_Parse.l0 k t429 (t429.size : Int) 0))) = some (r1, r2) := H
  have A2 := Aside0.mk A20
  clear A20
  replace H := Option.bind_eq_some_iff.mp H
  obtain ⟨t429, A30, H⟩ := H
  replace H : (if t429.toList = ([] : List UInt8) then (some ((⟨#[]⟩ : ByteArray), 8)) else (host_Parse.l0 k t429 (t429.size : Int) 0)) = some (r1, r2) := H
  have A3 := Aside0.mk A30
  clear A30
  by_cases c4 : t429.toList = ([] : List UInt8)
  · rw [if_pos c4] at H
    have c4b0 : (t429.toList == ([] : List UInt8)) = true := beq_iff_eq.mpr c4
    have c4b1 : (t429.toList != ([] : List UInt8)) = false := bne_eq_false_iff_eq.mpr c4
    clear c4
    simp only [Option.some.injEq, Prod.mk.injEq] at H
    obtain ⟨rfl, rfl⟩ := H
    go_enter Tryz.func79, Tryz.ntmps79
    go_wp2_with (first | ((with_reducible refine gate_callee (f := 112) rfl ?_); refine goesL_ (some 10) rfl rfl Tryz.func112 (by kernel_rfl) rfl #[.string a0] rfl (by (try simp only [List.map_toArray, List.map_cons, List.map_nil]); first | done | rfl | (simp only [List.length_drop, List.length_take]; rfl)) ?_; (with_reducible refine (percent_Decode.calls k a0 t428 _ A2.out).mono ?_); rintro e w5 ⟨rfl, hb⟩; refine ⟨_, rfl, ?_⟩; have n0_ := Aside0.mk (below_step (by repeat (first | (with_reducible first | exact HB.out | apply below_alloc | apply pw_below_drewN | apply below_drew1) | exact HB.out)) hb); clear HB; have HB := n0_; clear n0_; (try clear hb); (try clear hb2); (try clear hk); (try clear hi)) | ((with_reducible refine gate_callee (f := 90) rfl ?_); refine goesL_ (some 11) rfl rfl Tryz.func90 (by kernel_rfl) rfl #[.string t428] rfl (by (try simp only [List.map_toArray, List.map_cons, List.map_nil]); first | done | rfl | (simp only [List.length_drop, List.length_take]; rfl)) ?_; (with_reducible refine (ascii_Lower.calls t428 t429 _ A3.out).mono ?_); rintro e w6 ⟨rfl, hb⟩; refine ⟨_, rfl, ?_⟩; have n0_ := Aside0.mk (below_step (by repeat (first | (with_reducible first | exact HB.out | apply below_alloc | apply pw_below_drewN | apply below_drew1) | exact HB.out)) hb); clear HB; have HB := n0_; clear n0_; (try clear hb); (try clear hb2); (try clear hk); (try clear hi)))
    go_ret2
    exact ⟨by first | rfl | (simp [errW_none, errW_some] <;> rfl) | (simp [*, errW_none, errW_some] <;> rfl), by repeat (first | (with_reducible first | exact HB.out | apply below_alloc | apply pw_below_drewN | apply below_drew1) | exact HB.out)⟩
  · rw [if_neg c4] at H
    have c4b0 : (t429.toList == ([] : List UInt8)) = false := beq_eq_false_iff_ne.mpr c4
    have c4b1 : (t429.toList != ([] : List UInt8)) = true := bne_iff_ne.mpr c4
    have H' := Aside0.mk H
    clear H
    go_enter Tryz.func79, Tryz.ntmps79
    go_wp2_with (first | ((with_reducible refine gate_callee (f := 112) rfl ?_); refine goesL_ (some 10) rfl rfl Tryz.func112 (by kernel_rfl) rfl #[.string a0] rfl (by (try simp only [List.map_toArray, List.map_cons, List.map_nil]); first | done | rfl | (simp only [List.length_drop, List.length_take]; rfl)) ?_; (with_reducible refine (percent_Decode.calls k a0 t428 _ A2.out).mono ?_); rintro e w7 ⟨rfl, hb⟩; refine ⟨_, rfl, ?_⟩; have n0_ := Aside0.mk (below_step (by repeat (first | (with_reducible first | exact HB.out | apply below_alloc | apply pw_below_drewN | apply below_drew1) | exact HB.out)) hb); clear HB; have HB := n0_; clear n0_; (try clear hb); (try clear hb2); (try clear hk); (try clear hi)) | ((with_reducible refine gate_callee (f := 90) rfl ?_); refine goesL_ (some 11) rfl rfl Tryz.func90 (by kernel_rfl) rfl #[.string t428] rfl (by (try simp only [List.map_toArray, List.map_cons, List.map_nil]); first | done | rfl | (simp only [List.length_drop, List.length_take]; rfl)) ?_; (with_reducible refine (ascii_Lower.calls t428 t429 _ A3.out).mono ?_); rintro e w8 ⟨rfl, hb⟩; refine ⟨_, rfl, ?_⟩; have n0_ := Aside0.mk (below_step (by repeat (first | (with_reducible first | exact HB.out | apply below_alloc | apply pw_below_drewN | apply below_drew1) | exact HB.out)) hb); clear HB; have HB := n0_; clear n0_; (try clear hb); (try clear hb2); (try clear hk); (try clear hi)))
    go_loopg [16] k (fun kq v16 w' => ∃ (x16_1 : Int), v16 = .int .i64 x16_1 ∧ Aside0 (host_Parse.l0 kq t429 (t429.size : Int) x16_1 = some (r1, r2)) ∧ Aside0 (kq ≤ k) ∧ Aside0 (Below w.heap.size w w'))
    case atStart => exact ⟨(0), (by first | rfl | (simp; done) | (simp [*]; done)), H', ⟨Nat.le_refl _⟩, ⟨by repeat (first | (with_reducible first | exact HB.out | apply below_alloc | apply pw_below_drewN | apply below_drew1) | exact HB.out)⟩⟩
    case round =>
      clear H'
      try clear c1
      try clear p2
      try clear c4
      try clear c4b0
      try clear c4b1
      try clear c7
      obtain ⟨x16_1, rfl, HA, HK1, HB⟩ := hrel
      cases gk with
      | zero => exact absurd HA.out (by simp [host_Parse.l0])
      | succ k1 =>
        have H := HA.out
        clear HA
        simp only [host_Parse.l0] at H
        by_cases c9 : x16_1 < (t429.size : Int)
        · rw [if_pos c9] at H
          have c9b0 : decide (x16_1 < (t429.size : Int)) = true := decide_eq_true c9
          clear c9
          by_cases c10 : 0 ≤ x16_1
          · rw [if_pos c10] at H
            have c10b0 : decide (0 ≤ x16_1) = true := decide_eq_true c10
            clear c10
            by_cases c11 : x16_1 < (t429.size : Int)
            · rw [if_pos c11] at H
              have c11b0 : decide (x16_1 < (t429.size : Int)) = true := decide_eq_true c11
              clear c11
              replace H := Option.bind_eq_some_iff.mp H
              obtain ⟨t430, A130, H⟩ := H
              replace H : (if t430 = true then (some ((⟨#[]⟩ : ByteArray), 8)) else (host_Parse.l0 k1 t429 (t429.size : Int) (wrap64 (x16_1 + 1)))) = some (r1, r2) := H
              have A13 := Aside0.mk A130
              clear A130
              by_cases c14 : t430 = true
              · subst c14
                have H1 : (some ((⟨#[]⟩ : ByteArray), 8)) = some (r1, r2) := by rw [if_pos rfl] at H; exact H
                clear H
                have H := H1
                clear H1
                simp only [Option.some.injEq, Prod.mk.injEq] at H
                obtain ⟨rfl, rfl⟩ := H
                have p12 : 0 ≤ (x16_1 : Int) := of_decide_eq_true (by first | (with_reducible assumption) | assumption)
                have q12 : x16_1 < (t429.size : Int) := of_decide_eq_true (by first | (with_reducible assumption) | assumption)
                have hx12 := bt_at t429 x16_1
                replace p12 := eq_true p12
                replace q12 := eq_true q12
                go_wp2_with (first | ((with_reducible refine gate_callee (f := 113) rfl ?_); refine goesL_ (some 22) rfl rfl Tryz.func113 (by kernel_rfl) rfl #[.int .u8 (bt t429 x16_1)] rfl (by (try simp only [List.map_toArray, List.map_cons, List.map_nil]); first | done | rfl | (simp only [List.length_drop, List.length_take]; rfl)) ?_; (with_reducible refine (host_forbidden.calls (bt t429 x16_1) true _ A13.out).mono ?_); rintro e w' ⟨rfl, ⟨nd, rfl⟩⟩; refine ⟨_, rfl, ?_⟩))
                go_ret2
                exact ⟨by first | rfl | (simp [errW_none, errW_some] <;> rfl) | (simp [*, errW_none, errW_some] <;> rfl), by repeat (first | (with_reducible first | exact HB.out | apply below_alloc | apply pw_below_drewN | apply below_drew1) | exact HB.out)⟩
              · replace c14 := Bool.eq_false_iff.mpr c14
                subst c14
                have H1 : (host_Parse.l0 k1 t429 (t429.size : Int) (wrap64 (x16_1 + 1))) = some (r1, r2) := by rw [if_neg (show ¬ (false = true) by decide)] at H; exact H
                clear H
                have H := H1
                clear H1
                have H' := Aside0.mk H
                clear H
                have p12 : 0 ≤ (x16_1 : Int) := of_decide_eq_true (by first | (with_reducible assumption) | assumption)
                have q12 : x16_1 < (t429.size : Int) := of_decide_eq_true (by first | (with_reducible assumption) | assumption)
                have hx12 := bt_at t429 x16_1
                replace p12 := eq_true p12
                replace q12 := eq_true q12
                go_wp2_with (first | ((with_reducible refine gate_callee (f := 113) rfl ?_); refine goesL_ (some 22) rfl rfl Tryz.func113 (by kernel_rfl) rfl #[.int .u8 (bt t429 x16_1)] rfl (by (try simp only [List.map_toArray, List.map_cons, List.map_nil]); first | done | rfl | (simp only [List.length_drop, List.length_take]; rfl)) ?_; (with_reducible refine (host_forbidden.calls (bt t429 x16_1) false _ A13.out).mono ?_); rintro e w' ⟨rfl, ⟨nd, rfl⟩⟩; refine ⟨_, rfl, ?_⟩))
                go_roundg k1
                case measure => have := HK1.out; omega
                case rel => exact ⟨(wrap64 (x16_1 + 1)), (by first | rfl | (simp; done) | (simp [*]; done)), H', ⟨by have := HK1.out; omega⟩, ⟨by repeat (first | (with_reducible first | exact HB.out | apply below_alloc | apply pw_below_drewN | apply below_drew1) | exact HB.out)⟩⟩
            · rw [if_neg c11] at H
              exact absurd H (by simp)
          · rw [if_neg c10] at H
            exact absurd H (by simp)
        · rw [if_neg c9] at H
          have c9b0 : decide (x16_1 < (t429.size : Int)) = false := decide_eq_false c9
          clear c9
          replace H := Option.bind_eq_some_iff.mp H
          obtain ⟨t431, A150, H⟩ := H
          replace H : (if 0 ≤ (wrap64 ((t431.length : Int) - 1)) then (if (wrap64 ((t431.length : Int) - 1)) < (t431.length : Int) then ((host_numeric.f k1 (rdOf ByteArray.empty t431 (wrap64 ((t431.length : Int) - 1)))).bind fun t435 => (if t435 = true then ((host_Number.f t429).bind fun bt436 => (if bt436.2 = true then ((host_Text.f bt436.1).bind fun t438 => (some (t438, 0))) else (some ((⟨#[]⟩ : ByteArray), 8)))) else (some (t429, 0)))) else (none)) else (none)) = some (r1, r2) := H
          have A15 := Aside0.mk A150
          clear A150
          obtain ⟨ji16, hji16⟩ : ∃ j_ : Int, (wrap64 ((t431.length : Int) - 1)) = j_ := ⟨_, rfl⟩
          replace H : (if 0 ≤ (ji16) then (if (ji16) < (t431.length : Int) then ((host_numeric.f k1 (rdOf ByteArray.empty t431 (ji16))).bind fun t435 => (if t435 = true then ((host_Number.f t429).bind fun bt436 => (if bt436.2 = true then ((host_Text.f bt436.1).bind fun t438 => (some (t438, 0))) else (some ((⟨#[]⟩ : ByteArray), 8)))) else (some (t429, 0)))) else (none)) else (none)) = some (r1, r2) := by first | (rw [hji16] at H; exact H) | (simp only [hji16] at H ⊢; exact H)
          (try rw [hji16] at A15)
          have hji16w : (IntKind.i64.wrap ((t431.length : Int) - 1)) = ji16 := (i64_w _).trans hji16
          by_cases c17 : 0 ≤ (ji16)
          · rw [if_pos c17] at H
            have c17b0 : decide (0 ≤ (ji16)) = true := decide_eq_true c17
            clear c17
            by_cases c18 : (ji16) < (t431.length : Int)
            · rw [if_pos c18] at H
              have c18b0 : decide ((ji16) < (t431.length : Int)) = true := decide_eq_true c18
              clear c18
              replace H := Option.bind_eq_some_iff.mp H
              obtain ⟨t435, A190, H⟩ := H
              replace H : (if t435 = true then ((host_Number.f t429).bind fun bt436 => (if bt436.2 = true then ((host_Text.f bt436.1).bind fun t438 => (some (t438, 0))) else (some ((⟨#[]⟩ : ByteArray), 8)))) else (some (t429, 0))) = some (r1, r2) := H
              have A19 := Aside0.mk A190
              clear A190
              by_cases c20 : t435 = true
              · subst c20
                have H1 : ((host_Number.f t429).bind fun bt436 => (if bt436.2 = true then ((host_Text.f bt436.1).bind fun t438 => (some (t438, 0))) else (some ((⟨#[]⟩ : ByteArray), 8)))) = some (r1, r2) := by rw [if_pos rfl] at H; exact H
                clear H
                have H := H1
                clear H1
                replace H := Option.bind_eq_some_iff.mp H
                obtain ⟨⟨t436, t437⟩, A210, H⟩ := H
                replace H : (if t437 = true then ((host_Text.f t436).bind fun t438 => (some (t438, 0))) else (some ((⟨#[]⟩ : ByteArray), 8))) = some (r1, r2) := H
                have A21 := Aside0.mk A210
                clear A210
                by_cases c22 : t437 = true
                · subst c22
                  have H1 : ((host_Text.f t436).bind fun t438 => (some (t438, 0))) = some (r1, r2) := by rw [if_pos rfl] at H; exact H
                  clear H
                  have H := H1
                  clear H1
                  replace H := Option.bind_eq_some_iff.mp H
                  obtain ⟨t438, A230, H⟩ := H
                  replace H : (some (t438, 0)) = some (r1, r2) := H
                  have A23 := Aside0.mk A230
                  clear A230
                  simp only [Option.some.injEq, Prod.mk.injEq] at H
                  obtain ⟨rfl, rfl⟩ := H
                  go_wp2_with (first | ((with_reducible refine gate_callee (f := 114) rfl ?_); refine goesL_ (some 25) rfl rfl Tryz.func114 (by kernel_rfl) rfl #[.string t429] rfl (by (try simp only [List.map_toArray, List.map_cons, List.map_nil]); first | done | rfl | (simp only [List.length_drop, List.length_take]; rfl)) ?_; (with_reducible refine (host_parts.calls t429 t431 _ A15.out).mono ?_); rintro e w24 ⟨v432, rfl, ho0, hb⟩; refine ⟨_, rfl, ?_⟩; have n0_ := Aside0.mk (Kd.R_lower ho0 (below_size (by repeat (first | (with_reducible first | exact HB.out | apply below_alloc | apply pw_below_drewN | apply below_drew1) | exact HB.out)))); have n1_ := Aside0.mk (below_step (by repeat (first | (with_reducible first | exact HB.out | apply below_alloc | apply pw_below_drewN | apply below_drew1) | exact HB.out)) hb); clear HB; have HO433 := n0_; have HB := n1_; clear n0_ n1_; (try clear hb); (try clear hb2); (try clear hk); (try clear hi); (try clear ho0); obtain ⟨Ao25, co25, eo25⟩ := Kd.R_slice HO433.out; subst eo25; have p434 : 0 ≤ ((ji16) : Int) := of_decide_eq_true (by first | (with_reducible assumption) | assumption); have q434 : (ji16) < (t431.length : Int) := of_decide_eq_true (by first | (with_reducible assumption) | assumption); obtain ⟨ad434, e434, hx434_0⟩ := Kd.at_string (Kd.R_reads' HO433.out).2.2 (ji16) p434 q434; cases e434; replace p434 := eq_true p434; replace q434 := eq_true q434) | ((with_reducible refine gate_callee (f := 115) rfl ?_); refine goesL_ (some 32) rfl rfl Tryz.func115 (by kernel_rfl) rfl #[.string (rdOf ByteArray.empty t431 (ji16))] rfl (by (try simp only [List.map_toArray, List.map_cons, List.map_nil]); first | done | (simp only [hji16]; rfl) | rfl | (simp only [List.length_drop, List.length_take]; rfl)) ?_; (with_reducible refine (host_numeric.calls k1 (rdOf ByteArray.empty t431 (ji16)) true _ A19.out).mono ?_); rintro e w' ⟨rfl, ⟨nd, rfl⟩⟩; refine ⟨_, rfl, ?_⟩) | ((with_reducible refine gate_callee (f := 106) rfl ?_); refine goesL_ (some 37) rfl rfl Tryz.func106 (by kernel_rfl) rfl #[.string t429] rfl (by (try simp only [List.map_toArray, List.map_cons, List.map_nil]); first | done | rfl | (simp only [List.length_drop, List.length_take]; rfl)) ?_; (with_reducible refine (host_Number.calls t429 t436 true _ A21.out).mono ?_); rintro e w26 ⟨rfl, hb⟩; refine ⟨_, rfl, ?_⟩; have n0_ := Aside0.mk (Kd.R_below (by (with_reducible repeat (first | apply Kd.R_alloc | apply Kd.R_drewN | apply Kd.R_drew)); exact HO433.out) hb); have n1_ := Aside0.mk (below_step (by repeat (first | (with_reducible first | exact HB.out | apply below_alloc | apply pw_below_drewN | apply below_drew1) | exact HB.out)) hb); clear HO433; clear HB; have HO433 := n0_; have HB := n1_; clear n0_ n1_; (try clear hb); (try clear hb2); (try clear hk); (try clear hi)) | ((with_reducible refine gate_callee (f := 107) rfl ?_); refine goesL_ (some 43) rfl rfl Tryz.func107 (by kernel_rfl) rfl #[.int .u32 t436] rfl (by (try simp only [List.map_toArray, List.map_cons, List.map_nil]); first | done | rfl | (simp only [List.length_drop, List.length_take]; rfl)) ?_; (with_reducible refine (host_Text.calls t436 t438 _ A23.out).mono ?_); rintro e w27 ⟨rfl, hb⟩; refine ⟨_, rfl, ?_⟩; have n0_ := Aside0.mk (Kd.R_below (by (with_reducible repeat (first | apply Kd.R_alloc | apply Kd.R_drewN | apply Kd.R_drew)); exact HO433.out) hb); have n1_ := Aside0.mk (below_step (by repeat (first | (with_reducible first | exact HB.out | apply below_alloc | apply pw_below_drewN | apply below_drew1) | exact HB.out)) hb); clear HO433; clear HB; have HO433 := n0_; have HB := n1_; clear n0_ n1_; (try clear hb); (try clear hb2); (try clear hk); (try clear hi)))
                  go_ret2
                  exact ⟨by first | rfl | (simp [errW_none, errW_some] <;> rfl) | (simp only [← hji16]; first | rfl | (simp [errW_none, errW_some] <;> rfl)) | (simp [*, errW_none, errW_some] <;> rfl), by repeat (first | (with_reducible first | exact HB.out | apply below_alloc | apply pw_below_drewN | apply below_drew1) | exact HB.out)⟩
                · replace c22 := Bool.eq_false_iff.mpr c22
                  subst c22
                  have H1 : (some ((⟨#[]⟩ : ByteArray), 8)) = some (r1, r2) := by rw [if_neg (show ¬ (false = true) by decide)] at H; exact H
                  clear H
                  have H := H1
                  clear H1
                  simp only [Option.some.injEq, Prod.mk.injEq] at H
                  obtain ⟨rfl, rfl⟩ := H
                  go_wp2_with (first | ((with_reducible refine gate_callee (f := 114) rfl ?_); refine goesL_ (some 25) rfl rfl Tryz.func114 (by kernel_rfl) rfl #[.string t429] rfl (by (try simp only [List.map_toArray, List.map_cons, List.map_nil]); first | done | rfl | (simp only [List.length_drop, List.length_take]; rfl)) ?_; (with_reducible refine (host_parts.calls t429 t431 _ A15.out).mono ?_); rintro e w28 ⟨v432, rfl, ho0, hb⟩; refine ⟨_, rfl, ?_⟩; have n0_ := Aside0.mk (Kd.R_lower ho0 (below_size (by repeat (first | (with_reducible first | exact HB.out | apply below_alloc | apply pw_below_drewN | apply below_drew1) | exact HB.out)))); have n1_ := Aside0.mk (below_step (by repeat (first | (with_reducible first | exact HB.out | apply below_alloc | apply pw_below_drewN | apply below_drew1) | exact HB.out)) hb); clear HB; have HO433 := n0_; have HB := n1_; clear n0_ n1_; (try clear hb); (try clear hb2); (try clear hk); (try clear hi); (try clear ho0); obtain ⟨Ao29, co29, eo29⟩ := Kd.R_slice HO433.out; subst eo29; have p434 : 0 ≤ ((ji16) : Int) := of_decide_eq_true (by first | (with_reducible assumption) | assumption); have q434 : (ji16) < (t431.length : Int) := of_decide_eq_true (by first | (with_reducible assumption) | assumption); obtain ⟨ad434, e434, hx434_0⟩ := Kd.at_string (Kd.R_reads' HO433.out).2.2 (ji16) p434 q434; cases e434; replace p434 := eq_true p434; replace q434 := eq_true q434) | ((with_reducible refine gate_callee (f := 115) rfl ?_); refine goesL_ (some 32) rfl rfl Tryz.func115 (by kernel_rfl) rfl #[.string (rdOf ByteArray.empty t431 (ji16))] rfl (by (try simp only [List.map_toArray, List.map_cons, List.map_nil]); first | done | (simp only [hji16]; rfl) | rfl | (simp only [List.length_drop, List.length_take]; rfl)) ?_; (with_reducible refine (host_numeric.calls k1 (rdOf ByteArray.empty t431 (ji16)) true _ A19.out).mono ?_); rintro e w' ⟨rfl, ⟨nd, rfl⟩⟩; refine ⟨_, rfl, ?_⟩) | ((with_reducible refine gate_callee (f := 106) rfl ?_); refine goesL_ (some 37) rfl rfl Tryz.func106 (by kernel_rfl) rfl #[.string t429] rfl (by (try simp only [List.map_toArray, List.map_cons, List.map_nil]); first | done | rfl | (simp only [List.length_drop, List.length_take]; rfl)) ?_; (with_reducible refine (host_Number.calls t429 t436 false _ A21.out).mono ?_); rintro e w30 ⟨rfl, hb⟩; refine ⟨_, rfl, ?_⟩; have n0_ := Aside0.mk (Kd.R_below (by (with_reducible repeat (first | apply Kd.R_alloc | apply Kd.R_drewN | apply Kd.R_drew)); exact HO433.out) hb); have n1_ := Aside0.mk (below_step (by repeat (first | (with_reducible first | exact HB.out | apply below_alloc | apply pw_below_drewN | apply below_drew1) | exact HB.out)) hb); clear HO433; clear HB; have HO433 := n0_; have HB := n1_; clear n0_ n1_; (try clear hb); (try clear hb2); (try clear hk); (try clear hi)))
                  go_ret2
                  exact ⟨by first | rfl | (simp [errW_none, errW_some] <;> rfl) | (simp only [← hji16]; first | rfl | (simp [errW_none, errW_some] <;> rfl)) | (simp [*, errW_none, errW_some] <;> rfl), by repeat (first | (with_reducible first | exact HB.out | apply below_alloc | apply pw_below_drewN | apply below_drew1) | exact HB.out)⟩
              · replace c20 := Bool.eq_false_iff.mpr c20
                subst c20
                have H1 : (some (t429, 0)) = some (r1, r2) := by rw [if_neg (show ¬ (false = true) by decide)] at H; exact H
                clear H
                have H := H1
                clear H1
                simp only [Option.some.injEq, Prod.mk.injEq] at H
                obtain ⟨rfl, rfl⟩ := H
                go_wp2_with (first | ((with_reducible refine gate_callee (f := 114) rfl ?_); refine goesL_ (some 25) rfl rfl Tryz.func114 (by kernel_rfl) rfl #[.string t429] rfl (by (try simp only [List.map_toArray, List.map_cons, List.map_nil]); first | done | rfl | (simp only [List.length_drop, List.length_take]; rfl)) ?_; (with_reducible refine (host_parts.calls t429 t431 _ A15.out).mono ?_); rintro e w31 ⟨v432, rfl, ho0, hb⟩; refine ⟨_, rfl, ?_⟩; have n0_ := Aside0.mk (Kd.R_lower ho0 (below_size (by repeat (first | (with_reducible first | exact HB.out | apply below_alloc | apply pw_below_drewN | apply below_drew1) | exact HB.out)))); have n1_ := Aside0.mk (below_step (by repeat (first | (with_reducible first | exact HB.out | apply below_alloc | apply pw_below_drewN | apply below_drew1) | exact HB.out)) hb); clear HB; have HO433 := n0_; have HB := n1_; clear n0_ n1_; (try clear hb); (try clear hb2); (try clear hk); (try clear hi); (try clear ho0); obtain ⟨Ao32, co32, eo32⟩ := Kd.R_slice HO433.out; subst eo32; have p434 : 0 ≤ ((ji16) : Int) := of_decide_eq_true (by first | (with_reducible assumption) | assumption); have q434 : (ji16) < (t431.length : Int) := of_decide_eq_true (by first | (with_reducible assumption) | assumption); obtain ⟨ad434, e434, hx434_0⟩ := Kd.at_string (Kd.R_reads' HO433.out).2.2 (ji16) p434 q434; cases e434; replace p434 := eq_true p434; replace q434 := eq_true q434) | ((with_reducible refine gate_callee (f := 115) rfl ?_); refine goesL_ (some 32) rfl rfl Tryz.func115 (by kernel_rfl) rfl #[.string (rdOf ByteArray.empty t431 (ji16))] rfl (by (try simp only [List.map_toArray, List.map_cons, List.map_nil]); first | done | (simp only [hji16]; rfl) | rfl | (simp only [List.length_drop, List.length_take]; rfl)) ?_; (with_reducible refine (host_numeric.calls k1 (rdOf ByteArray.empty t431 (ji16)) false _ A19.out).mono ?_); rintro e w' ⟨rfl, ⟨nd, rfl⟩⟩; refine ⟨_, rfl, ?_⟩))
                go_ret2
                exact ⟨by first | rfl | (simp [errW_none, errW_some] <;> rfl) | (simp only [← hji16]; first | rfl | (simp [errW_none, errW_some] <;> rfl)) | (simp [*, errW_none, errW_some] <;> rfl), by repeat (first | (with_reducible first | exact HB.out | apply below_alloc | apply pw_below_drewN | apply below_drew1) | exact HB.out)⟩
            · rw [if_neg c18] at H
              exact absurd H (by simp)
          · rw [if_neg c17] at H
            exact absurd H (by simp)
end Go.Proofs.YtcmcopieagpppaaGreatDoor.P
namespace Go.Proofs.YtcmcopieagpppaaGreatDoor.P
open Go.RowKit Go.Proofs.YtcmcopieagpppaaGreatDoorW.PrintWords Go.Proofs.YtcmcopieagpppaaGreatDoorW.PrintLast Go.Proofs.YtcmcopieagpppaaGreatDoorW.PrintMore
set_option linter.unusedVariables false
set_option linter.unusedSimpArgs false
theorem splitOn_one (c : UInt8) : ∀ a : List UInt8, (∀ x ∈ a, x ≠ c) → Web.splitOn c a = [a]
  | [], _ => rfl
  | b :: t, h => by
    rw [Web.splitOn, if_neg (h b (by simp)), splitOn_one c t (fun x hx => h x (by simp [hx]))]
theorem splitOn_more (c : UInt8) (b : List UInt8) : ∀ a : List UInt8, (∀ x ∈ a, x ≠ c) → Web.splitOn c (a ++ c :: b) = a :: Web.splitOn c b
  | [], _ => by rw [List.nil_append, Web.splitOn, if_pos rfl]
  | d :: t, h => by
    rw [List.cons_append, Web.splitOn, if_neg (h d (by simp)), splitOn_more c b t (fun x hx => h x (by simp [hx]))]
theorem not_mem_of_get {l : List UInt8} {c : UInt8} {n : Nat} (h : ∀ k : Nat, k < n → l[k]? ≠ some c) : ∀ x ∈ l.take n, x ≠ c := by
  rintro x hx rfl
  obtain ⟨k, hk, e⟩ := List.getElem_of_mem hx
  rw [List.length_take] at hk
  refine h k (by omega) ?_
  rw [List.getElem?_eq_getElem (by omega), ← e, List.getElem_take]
theorem splitB_splitOn (c : UInt8) : ∀ (n : Nat) (l : List UInt8), l.length ≤ n → Lib.splitB (ba [c]) 0 (Lib.countB (ba l) (ba [c])) (ba l) = (Web.splitOn c l).map ba
  | n, l, hn => by
    induction n generalizing l with
    | zero =>
      obtain rfl : l = [] := List.length_eq_zero_iff.1 (by omega)
      rfl
    | succ n ihn =>
    have hi : Lib.indexB (ba l) (ba [c]) = Lib.indexByte l c := by
      have := Lib.index_one l c
      exact this
    rcases Lib.indexB_cases (ba l) (ba [c]) with h | ⟨i, h, h2⟩
    · rw [Lib.countB_miss _ _ h, Lib.splitB_zero]
      have h3 := Lib.indexByte_none (hi.symm.trans h)
      rw [splitOn_one c l (by
        rintro x hx rfl
        obtain ⟨k, hk, e⟩ := List.getElem_of_mem hx
        exact h3 k (by rw [List.getElem?_eq_getElem hk, e]))]
      rfl
    · have h3 := Lib.indexByte_some (hi.symm.trans h)
      have hil : i < l.length := by
        have := (List.getElem?_eq_some_iff.1 h3.1).1
        exact this
      rw [Lib.countB_hit _ (ba [c]) i (Nat.le_refl 1) h, Nat.add_comm, Lib.splitB_hit _ _ _ _ i h]
      have e1 : (ba l).extract 0 (i + 0) = ba (l.take i) := by rw [ba_extract]; rfl
      have e2 : (ba l).extract (i + (ba [c]).size) (ba l).size = ba (l.drop (i + 1)) := by
        rw [ba_extract]
        show ba ((l.take l.length).drop (i + 1)) = _
        rw [List.take_length]
      rw [e1, e2]
      have e3 : l = l.take i ++ c :: l.drop (i + 1) := by
        have := (List.take_append_drop i l).symm
        rw [List.drop_eq_getElem_cons hil] at this
        rw [List.getElem?_eq_getElem hil] at h3
        rw [Option.some.inj h3.1] at this
        exact this
      have ih := ihn (l.drop (i + 1)) (by rw [List.length_drop]; omega)
      rw [ih]
      conv => rhs; rw [e3]
      rw [splitOn_more c _ _ (not_mem_of_get h3.2)]
      rfl
theorem ascii_split_eq (l : List UInt8) (c : UInt8) (hl : l.length < 4294967281) : ascii_Split.f (ba l) (c.toNat : Int) = some ((Web.splitOn c l).map ba) := by
  unfold ascii_Split.f
  rw [if_pos (by rw [ba_size]; exact hl), u8_back]
  have := splitB_splitOn c l.length l (Nat.le_refl _)
  exact congrArg some this
theorem host_parts_eq (l : List UInt8) (hl : l.length < 4294967281) : host_parts.f (ba l) = some ((Web.partsOf l).map ba) := by
  have hs := ascii_split_eq l 46 hl
  have hp := splitOn_pos 46 l
  have hle := splitOn_len 46 l
  have hne := splitOn_ne 46 l
  unfold host_parts.f
  rw [show (46 : Int) = ((46 : UInt8).toNat : Int) from rfl, hs]
  simp only [Option.bind_some]
  unfold Web.partsOf
  generalize Web.splitOn 46 l = L at *
  simp only [List.length_map]
  have hw : wrap64 ((L.length : Int) - 1) = ((L.length - 1 : Nat) : Int) := by unfold wrap64; omega
  rw [hw]
  by_cases h1 : 1 < L.length
  · rw [if_pos (by omega), if_pos (by omega), if_pos (by omega), rdOf_ba L _ (by omega), ba_toList, getLast_at L hne]
    by_cases h2 : L[L.length - 1] = []
    · rw [if_pos h2, if_pos (by omega), if_pos ⟨h1, by rw [h2]⟩]
      simp [List.dropLast_eq_take]
    · rw [if_neg h2, if_neg (by rintro ⟨_, e⟩; exact h2 (by simpa using e))]
  · rw [if_neg (by omega), if_neg (by rintro ⟨e, _⟩; exact h1 e)]
theorem hostNum_one (a : Int) (left : Nat) (x : ByteArray) : hostNum a left [x] = match Web.part x.data.toList with
    | none => (0, false)
    | some n => ((a + n) % 4294967296, decide (n < 2 ^ (8 * left))) := by
  unfold hostNum
  rfl
theorem hostNum_more (a : Int) (left : Nat) (x y : ByteArray) (r : List ByteArray) : hostNum a left (x :: y :: r) = match Web.part x.data.toList with
    | none => (0, false)
    | some n => if 255 < n then (0, false) else hostNum ((a + n * 2 ^ (8 * (left - 1))) % 4294967296) (left - 1) (y :: r) := by
  rw [hostNum]
  all_goals (cases Web.part x.data.toList <;> rfl)
theorem hostNum_eq : ∀ (L : List (List UInt8)) (v left : Nat), L ≠ [] → L.length ≤ left → v + 2 ^ (8 * left) ≤ 4294967296 →
    hostNum (v : Int) left (L.map ba) = (match Web.numberFrom v left L with
      | some n => ((n : Int), true)
      | none => ((hostNum (v : Int) left (L.map ba)).1, false))
  | [], _, _, h, _, _ => absurd rfl h
  | [p], v, left, _, h1, h2 => by
    rw [numberFrom_one]
    rw [List.map_cons, List.map_nil, hostNum_one, ba_list]
    cases hp : Web.part p with
    | none => rfl
    | some n =>
      simp only []
      by_cases hn : n < 2 ^ (8 * left)
      · rw [if_pos hn, decide_eq_true hn]
        simp only [Prod.mk.injEq, and_true]
        omega
      · rw [if_neg hn, decide_eq_false hn]
  | p :: q :: r, v, left, _, h1, h2 => by
    rw [numberFrom_more]
    rw [List.map_cons, List.map_cons, hostNum_more, ba_list]
    cases hp : Web.part p with
    | none => rfl
    | some n =>
      simp only []
      by_cases hn : 255 < n
      · rw [if_pos hn, if_pos hn]
      · rw [if_neg hn, if_neg hn]
        simp only [List.length_cons] at h1
        obtain ⟨m, rfl⟩ : ∃ m, left = m + 1 := ⟨left - 1, by omega⟩
        have e8 : 2 ^ (8 * (m + 1)) = 256 * 2 ^ (8 * m) := by rw [show 8 * (m + 1) = 8 + 8 * m from by omega, Nat.pow_add]
        have hb : n * 2 ^ (8 * m) ≤ 255 * 2 ^ (8 * m) := Nat.mul_le_mul_right _ (by omega)
        have hp2 := Nat.two_pow_pos (8 * m)
        have ih := hostNum_eq (q :: r) (v + n * 2 ^ (8 * m)) m (by simp) (by simp only [List.length_cons]; omega) (by omega)
        have e : ((v : Int) + (n : Int) * 2 ^ (8 * (m + 1 - 1))) % 4294967296 = ((v + n * 2 ^ (8 * m) : Nat) : Int) := by
          rw [Nat.add_sub_cancel, Int.natCast_add, Int.natCast_mul]
          have e2 : ((2 ^ (8 * m) : Nat) : Int) = (2 : Int) ^ (8 * m) := by exact Int.natCast_pow 2 (8 * m)
          rw [← e2, ← Int.natCast_mul, ← Int.natCast_add]
          exact Int.emod_eq_of_lt (Int.natCast_nonneg _) (by omega)
        rw [e, Nat.add_sub_cancel]
        exact ih
theorem host_number_eq (l : List UInt8) (hl : l.length < 4294967281) : host_Number.f (ba l) = some (pairOf (Web.number l)) := by
  unfold host_Number.f
  rw [host_parts_eq l hl]
  simp only [Option.bind_some, List.length_map]
  unfold Web.number
  have hne := partsOf_ne l
  by_cases h4 : 4 < (Web.partsOf l).length
  · rw [if_pos (by omega), if_pos h4]
    rfl
  · rw [if_neg (by omega), if_neg h4]
    have hpos := List.length_pos_iff.2 hne
    have hn := hostNum_eq (Web.partsOf l) 0 4 hne (by omega) (by omega)
    have hf : host_number.f 0 4 ((Web.partsOf l).map ba) = some (hostNum 0 4 ((Web.partsOf l).map ba)) := by
      unfold host_number.f
      rw [if_pos]
      · rfl
      refine ⟨by rw [List.length_map]; omega, by rw [List.length_map]; omega, by omega, by omega, by omega, ?_⟩
      intro x hx
      obtain ⟨p, hp, rfl⟩ := List.mem_map.1 hx
      have := partsOf_piece l p hp
      rw [ba_size]
      omega
    rw [hf]
    simp only [Option.bind_some]
    rw [show ((0 : Nat) : Int) = 0 from rfl] at hn
    rw [hn]
    unfold pairOf
    cases Web.numberFrom 0 4 (Web.partsOf l) <;> rfl
theorem host_parse_loop (d : List UInt8) (hl : d.length < 4294967281) : ∀ n i k, i + n = d.length → n + d.length + 4 < k →
    host_Parse.l0 k (ba d) (d.length : Int) (i : Int) = some (if (d.drop i).any Web.forbidden then ((⟨#[]⟩ : ByteArray), (8 : Int)) else if Web.numeric ((Web.partsOf d).getLast?.getD []) then (match Web.number d with
      | some a => (ba (Web.addrText a), 0)
      | none => (⟨#[]⟩, 8)) else (ba d, 0))
  | 0, i, k, hi, hk => by
    obtain ⟨k, rfl⟩ : ∃ m, k = m + 1 := ⟨k - 1, by omega⟩
    have hne := List.length_pos_iff.2 (partsOf_ne d)
    have hle : (Web.partsOf d).length ≤ 4294967300 := by
      have := splitOn_len 46 d
      rw [partsOf_def]
      split
      · rw [List.length_dropLast]; omega
      · omega
    simp only [host_Parse.l0]
    rw [if_neg (by omega), List.drop_eq_nil_of_le (by omega), host_parts_eq d hl, host_number_eq d hl]
    simp only [Option.bind_some, List.length_map]
    have hp := partsOf_piece d _ (List.getElem_mem (show (Web.partsOf d).length - 1 < (Web.partsOf d).length by omega))
    rw [show wrap64 (((Web.partsOf d).length : Int) - 1) = (((Web.partsOf d).length - 1 : Nat) : Int) from by unfold wrap64; omega, if_pos (by omega), if_pos (by omega), rdOf_ba _ _ (by omega),
      host_numeric_eq _ (by omega) _ (by omega), ← last_part]
    simp only [Option.bind_some]
    have hf : ¬ (([] : List UInt8).any Web.forbidden = true) := by simp
    rw [if_neg hf]
    by_cases hn : Web.numeric ((Web.partsOf d).getLast?.getD []) = true
    · rw [if_pos hn, if_pos hn]
      unfold pairOf
      cases e : Web.number d with
      | none => rfl
      | some a =>
        have := number_lt d a e
        simp only [if_true]
        unfold host_Text.f
        rw [if_pos (by omega)]
        rfl
    · rw [if_neg hn, if_neg hn]
  | n + 1, i, k, hi, hk => by
    obtain ⟨k, rfl⟩ : ∃ m, k = m + 1 := ⟨k - 1, by omega⟩
    have hi' : i < d.length := by omega
    simp only [host_Parse.l0]
    rw [if_pos (by omega), if_pos (by omega), if_pos (by rw [ba_size]; omega), bt_ba d i hi', forbidden_eq, List.drop_eq_getElem_cons hi', List.any_cons, wrap_up (by omega)]
    simp only [Option.bind_some]
    have ih := host_parse_loop d hl n (i + 1) k (by omega) (by omega)
    cases hf : Web.forbidden d[i] with
    | true => rw [if_pos rfl, Bool.true_or, if_pos rfl]
    | false => rw [if_neg (by simp), Bool.false_or]; exact ih
theorem host_parse_eq (l : List UInt8) (hl : l.length < 4294967281) (k : Nat) (hk : 2 * l.length + 6 < k) : host_Parse.f k (ba l) = some (hostP l) := by
  have hd := dec_len l.length l (Nat.le_refl _)
  unfold host_Parse.f
  rw [percent_decode_eq l (by omega) k (by omega)]
  simp only [Option.bind_some]
  have hlow : ascii_Lower.f (ba (Web.dec l)) = some (ba (Web.lowerL (Web.dec l))) := by
    unfold ascii_Lower.f
    rw [if_pos (by rw [ba_size]; omega)]
    rfl
  rw [hlow]
  simp only [Option.bind_some]
  rw [ba_toList, ba_size]
  unfold hostP Web.host
  dsimp only
  have hL : (Web.lowerL (Web.dec l)).length ≤ l.length := by rw [Web.lowerL_length]; exact hd
  generalize Web.lowerL (Web.dec l) = d at hL ⊢
  by_cases h0 : d = []
  · rw [if_pos h0, if_pos h0]
  · rw [if_neg h0, if_neg h0]
    have := host_parse_loop d (by omega) d.length 0 k (by omega) (by omega)
    refine this.trans ?_
    rw [List.drop_zero]
    by_cases hf : d.any Web.forbidden = true
    · rw [if_pos hf, if_pos hf]
    · rw [if_neg hf, if_neg hf]
      by_cases hn : Web.numeric ((Web.partsOf d).getLast?.getD []) = true
      · rw [if_pos hn, if_pos hn]
        cases Web.number d <;> rfl
      · rw [if_neg hn, if_neg hn]
end Go.Proofs.YtcmcopieagpppaaGreatDoor.P
namespace Go.Proofs.YtcmcopieagpppaaGreatDoor.P
open Go.RowKit Go.Proofs.YtcmcopieagpppaaGreatDoorW.PrintWords Go.Proofs.YtcmcopieagpppaaGreatDoorW.PrintLast Go.Proofs.YtcmcopieagpppaaGreatDoorW.PrintMore
set_option linter.unusedVariables false
set_option linter.unusedSimpArgs false
def RB (w : World) (g : Nat) (rest : ByteArray) (u : Web.U) : Prop := w.heap[g]? = some (.cells #[.string rest, .string (ba u.scheme), .string (ba u.user), .string (ba u.pass), .string (ba u.host), .int .i64 u.port, .string (ba u.path), .bool u.hasQ, .string (ba u.query), .bool u.hasF, .string (ba u.frag)] 76 (0, 0))
theorem RB.below {w w1 : World} {g : Nat} {r : ByteArray} {u : Web.U} (h : RB w g r u) (hb : Below w.heap.size w w1) : RB w1 g r u := blk_below h hb
theorem RB.lt {w : World} {g : Nat} {r : ByteArray} {u : Web.U} (h : RB w g r u) : g < w.heap.size := blk_lt h
theorem RB.f {w : World} {g : Nat} {r : ByteArray} {u : Web.U} (h : RB w g r u) (i : Nat) : w.frozen? ⟨g, i, none⟩ = false := blk_frozen h i
theorem RB.c0 {w : World} {g : Nat} {r : ByteArray} {u : Web.U} (h : RB w g r u) : w.cell? ⟨g, 0, none⟩ = some (.string r) := (blk_cell h 0).trans rfl
theorem RB.c1 {w : World} {g : Nat} {r : ByteArray} {u : Web.U} (h : RB w g r u) : w.cell? ⟨g, 1, none⟩ = some (.string (ba u.scheme)) := (blk_cell h 1).trans rfl
theorem RB.c2 {w : World} {g : Nat} {r : ByteArray} {u : Web.U} (h : RB w g r u) : w.cell? ⟨g, 2, none⟩ = some (.string (ba u.user)) := (blk_cell h 2).trans rfl
theorem RB.c3 {w : World} {g : Nat} {r : ByteArray} {u : Web.U} (h : RB w g r u) : w.cell? ⟨g, 3, none⟩ = some (.string (ba u.pass)) := (blk_cell h 3).trans rfl
theorem RB.c4 {w : World} {g : Nat} {r : ByteArray} {u : Web.U} (h : RB w g r u) : w.cell? ⟨g, 4, none⟩ = some (.string (ba u.host)) := (blk_cell h 4).trans rfl
theorem RB.c5 {w : World} {g : Nat} {r : ByteArray} {u : Web.U} (h : RB w g r u) : w.cell? ⟨g, 5, none⟩ = some (.int .i64 u.port) := (blk_cell h 5).trans rfl
theorem RB.c6 {w : World} {g : Nat} {r : ByteArray} {u : Web.U} (h : RB w g r u) : w.cell? ⟨g, 6, none⟩ = some (.string (ba u.path)) := (blk_cell h 6).trans rfl
theorem RB.c7 {w : World} {g : Nat} {r : ByteArray} {u : Web.U} (h : RB w g r u) : w.cell? ⟨g, 7, none⟩ = some (.bool u.hasQ) := (blk_cell h 7).trans rfl
theorem RB.c8 {w : World} {g : Nat} {r : ByteArray} {u : Web.U} (h : RB w g r u) : w.cell? ⟨g, 8, none⟩ = some (.string (ba u.query)) := (blk_cell h 8).trans rfl
theorem RB.c9 {w : World} {g : Nat} {r : ByteArray} {u : Web.U} (h : RB w g r u) : w.cell? ⟨g, 9, none⟩ = some (.bool u.hasF) := (blk_cell h 9).trans rfl
theorem RB.c10 {w : World} {g : Nat} {r : ByteArray} {u : Web.U} (h : RB w g r u) : w.cell? ⟨g, 10, none⟩ = some (.string (ba u.frag)) := (blk_cell h 10).trans rfl
theorem RB.set0 {w : World} {g : Nat} {r : ByteArray} {u : Web.U} (h : RB w g r u) (x : ByteArray) : RB (w.setCell ⟨g, 0, none⟩ (.string x)) g x u := blk_put h 0 _ rfl
theorem RB.set1 {w : World} {g : Nat} {r : ByteArray} {u : Web.U} (h : RB w g r u) (x : List UInt8) : RB (w.setCell ⟨g, 1, none⟩ (.string (ba x))) g r { u with scheme := x } := blk_put h 1 _ rfl
theorem RB.set2 {w : World} {g : Nat} {r : ByteArray} {u : Web.U} (h : RB w g r u) (x : List UInt8) : RB (w.setCell ⟨g, 2, none⟩ (.string (ba x))) g r { u with user := x } := blk_put h 2 _ rfl
theorem RB.set3 {w : World} {g : Nat} {r : ByteArray} {u : Web.U} (h : RB w g r u) (x : List UInt8) : RB (w.setCell ⟨g, 3, none⟩ (.string (ba x))) g r { u with pass := x } := blk_put h 3 _ rfl
theorem RB.set4 {w : World} {g : Nat} {r : ByteArray} {u : Web.U} (h : RB w g r u) (x : List UInt8) : RB (w.setCell ⟨g, 4, none⟩ (.string (ba x))) g r { u with host := x } := blk_put h 4 _ rfl
theorem RB.set5 {w : World} {g : Nat} {r : ByteArray} {u : Web.U} (h : RB w g r u) (x : Int) : RB (w.setCell ⟨g, 5, none⟩ (.int .i64 x)) g r { u with port := x } := blk_put h 5 _ rfl
theorem RB.set6 {w : World} {g : Nat} {r : ByteArray} {u : Web.U} (h : RB w g r u) (x : List UInt8) : RB (w.setCell ⟨g, 6, none⟩ (.string (ba x))) g r { u with path := x } := blk_put h 6 _ rfl
theorem RB.set7 {w : World} {g : Nat} {r : ByteArray} {u : Web.U} (h : RB w g r u) (x : Bool) : RB (w.setCell ⟨g, 7, none⟩ (.bool x)) g r { u with hasQ := x } := blk_put h 7 _ rfl
theorem RB.set8 {w : World} {g : Nat} {r : ByteArray} {u : Web.U} (h : RB w g r u) (x : List UInt8) : RB (w.setCell ⟨g, 8, none⟩ (.string (ba x))) g r { u with query := x } := blk_put h 8 _ rfl
theorem RB.set9 {w : World} {g : Nat} {r : ByteArray} {u : Web.U} (h : RB w g r u) (x : Bool) : RB (w.setCell ⟨g, 9, none⟩ (.bool x)) g r { u with hasF := x } := blk_put h 9 _ rfl
theorem RB.set10 {w : World} {g : Nat} {r : ByteArray} {u : Web.U} (h : RB w g r u) (x : List UInt8) : RB (w.setCell ⟨g, 10, none⟩ (.string (ba x))) g r { u with frag := x } := blk_put h 10 _ rfl
theorem indexByte_c (s : List UInt8) (c : UInt8) (w : World) :
    Calls Tryz.prog 89 #[.string (ba s), .int .u8 (c.toNat : Int)] w fun e w' => e = .returned (.int .i64 (Lib.indexByte s c)) ∧ Drawn0 w w' :=
  strings_IndexByte.calls (ba s) _ _ w (indexByte_eq s c)
theorem brk_at (q : UInt8 → Bool) : ∀ (l : List UInt8) (i : Nat) (hi : i < l.length), (∀ x ∈ l.take i, q x = false) → q l[i] = true → Web.brk q l = (l.take i, l.drop i)
  | l, i, hi, h1, h2 => by
    have e : l = l.take i ++ l[i] :: l.drop (i + 1) := by
      have := (List.take_append_drop i l).symm
      rw [List.drop_eq_getElem_cons hi] at this
      exact this
    have := brk_app q (l.take i) l[i] (l.drop (i + 1)) h1 h2
    rw [← e, ← List.drop_eq_getElem_cons hi] at this
    exact this
theorem brk_all (q : UInt8 → Bool) : ∀ (l : List UInt8), (∀ x ∈ l, q x = false) → Web.brk q l = (l, [])
  | [], _ => rfl
  | c :: t, h => by
    rw [brk_cons, h c (by simp), brk_all q t (fun x hx => h x (by simp [hx]))]
    rfl
theorem has_q {t : List UInt8} {q : UInt8 → Bool} (hq : ∀ c, t.contains c = q c) (c : UInt8) : decide (0 ≤ Lib.indexByte t c) = q c := by
  rw [← hq c, Lib.contains_iff_indexByte]
set_option maxRecDepth 100000 in
set_option maxHeartbeats 2000000 in
theorem upTo_keep (g : Nat) (s : ByteArray) (t : List UInt8) (q : UInt8 → Bool) (hq : ∀ c, t.contains c = q c) (u : Web.U) (w : World) (hs : s.size ≤ 4611686018427387904) (hr : RB w g s u) :
    Calls Tryz.prog 60 #[.pointer (some ⟨g, 0, none⟩), .string (ba t)] w fun e w' => ∃ a b : ByteArray, e = .returned (.string a) ∧ Hid (bs a = (Web.brk q (bs s)).1 ∧ bs b = (Web.brk q (bs s)).2) ∧ Below g w w' ∧ Hid (RB w' g b u) ∧ KeepBut w w' g none := by
  have HR := Lib.hid hr
  have HQ := Lib.hid hq
  have c0 := hr.c0
  clear hr hq
  go_enter Tryz.func60, Tryz.ntmps60
  go_wp2_with fail
  clear c0
  go_loopw [13] (fun v13 wr => ∃ i : Nat, v13 = .int .i64 (i : Int) ∧ Hid (∀ x ∈ (bs s).take i, q x = false) ∧ i ≤ s.size ∧ Hid (RB wr g s u) ∧ Hid (Below g w wr) ∧ Hid (KeepBut w wr g none)) (fun v _ => ((s.size : Int) - intOf v).toNat)
  case atStart => exact ⟨0, rfl, Lib.hid (by simp), by omega, HR, Lib.hid (Below.refl _ _), Lib.hid (KeepBut.refl _ _ _)⟩
  case round =>
    obtain ⟨i, rfl, HI, hi, HR1, HB, HK⟩ := hrel
    have c0 := HR1.out.c0
    by_cases c1 : i < s.size
    · have c1' : decide ((i : Int) < (s.size : Int)) = true := decide_eq_true (by omega)
      have hil : i < (bs s).length := by rw [bs_len]; exact c1
      go_wp2_with fail
      refine (indexByte_c t s[i] _).mono ?_
      rintro e w1 ⟨rfl, d1⟩
      have HR2 := Lib.hid (HR1.out.below d1.below)
      have HB2 := Lib.hid (below_g HB.out (Nat.le_of_lt HR1.out.lt) d1.below)
      have HK2 := Lib.hid (HK.out.trans (KeepBut.of_below d1.below g none) (.inl rfl))
      clear c0 HR1 HB HK d1
      have hqq := has_q HQ.out s[i]
      by_cases c2 : q s[i] = true
      · rw [c2] at hqq
        have c0 := HR2.out.c0
        have f0 := HR2.out.f 0
        go_wp2_with fail
        go_ret
        have hb := brk_at q (bs s) i hil HI.out c2
        exact ⟨_, _, rfl, Lib.hid ⟨by rw [hb, bs_head], by rw [hb, bs_rest]⟩, below_gset HB2.out _ _, Lib.hid (HR2.out.set0 _), HK2.out.set_ _ _⟩
      · rw [Bool.eq_false_iff.2 c2] at hqq
        go_wp2_with fail
        go_roundw
        case rel =>
          refine ⟨i + 1, rfl, Lib.hid ?_, by omega, HR2, HB2, HK2⟩
          intro x hx
          rw [List.take_add_one, List.getElem?_eq_getElem hil, List.mem_append] at hx
          rcases hx with hx | hx
          · exact HI.out x hx
          · obtain rfl := List.mem_singleton.1 hx
            exact Bool.eq_false_iff.2 c2
        case measure => simp [intOf]; omega
    · have c1' : decide ((i : Int) < (s.size : Int)) = false := decide_eq_false (by omega)
      have f0 := HR1.out.f 0
      go_wp2_with fail
      go_ret
      have hb := brk_all q (bs s) (by have := HI.out; rw [List.take_of_length_le (by rw [bs_len]; omega)] at this; exact this)
      exact ⟨_, _, rfl, Lib.hid ⟨by rw [hb], by rw [hb]; rfl⟩, below_gset HB.out _ _, Lib.hid (HR1.out.set0 _), HK.out.set_ _ _⟩
theorem upTo_walk (g : Nat) (s : ByteArray) (t : List UInt8) (q : UInt8 → Bool) (hq : ∀ c, t.contains c = q c) (u : Web.U) (w : World) (hs : s.size ≤ 4611686018427387904) (hr : RB w g s u) :
    Calls Tryz.prog 60 #[.pointer (some ⟨g, 0, none⟩), .string (ba t)] w fun e w' => ∃ a b : ByteArray, e = .returned (.string a) ∧ Hid (bs a = (Web.brk q (bs s)).1 ∧ bs b = (Web.brk q (bs s)).2) ∧ Below g w w' ∧ Hid (RB w' g b u) :=
  (upTo_keep g s t q hq u w hs hr).mono fun _ _ ⟨a, b, h1, h2, h3, h4, _⟩ => ⟨a, b, h1, h2, h3, h4⟩
set_option maxRecDepth 100000 in
set_option maxHeartbeats 2000000 in
theorem pass_keep (g : Nat) (s : ByteArray) (t : List UInt8) (q : UInt8 → Bool) (hq : ∀ c, t.contains c = q c) (u : Web.U) (w : World) (hs : s.size ≤ 4611686018427387904) (hr : RB w g s u) :
    Calls Tryz.prog 56 #[.pointer (some ⟨g, 0, none⟩), .string (ba t)] w fun e w' => ∃ b : Bool, e = .returned (.bool b) ∧ Below g w w' ∧
      Hid ((b = true ∧ ∃ c r, bs s = c :: bs r ∧ q c = true ∧ RB w' g r u) ∨ (b = false ∧ (∀ c r, bs s = c :: r → q c = false) ∧ RB w' g s u)) ∧ KeepBut w w' g none := by
  have HR := Lib.hid hr
  have c0 := hr.c0
  have HQ := Lib.hid hq
  clear hr hq
  by_cases z : 0 < s.size
  · have ze : s.toList.isEmpty = false := by rw [bs_toList, List.isEmpty_eq_false_iff]; intro h; have := congrArg List.length h; rw [bs_len] at this; simp only [List.length_nil] at this; omega
    have hco := Lib.hid (bs_cons s z)
    have hqq := has_q HQ.out s[0]
    go_enter Tryz.func56, Tryz.ntmps56
    go_wp2_with fail
    refine (indexByte_c t s[0] _).mono ?_
    rintro e w1 ⟨rfl, d1⟩
    have HR2 := Lib.hid (HR.out.below d1.below)
    have HB2 := Lib.hid (d1.below.mono (Nat.le_of_lt HR.out.lt))
    have HK2 := Lib.hid (KeepBut.of_below d1.below g none)
    clear c0 HR d1
    have c0 := HR2.out.c0
    have f0 := HR2.out.f 0
    by_cases c2 : q s[0] = true
    · rw [c2] at hqq
      have h2 : decide (Lib.indexByte t s[0] < 0) = false := by rw [decide_eq_false_iff_not]; have := of_decide_eq_true hqq; omega
      go_wp2_with fail
      go_ret
      exact ⟨true, rfl, below_gset HB2.out _ _, Lib.hid (.inl ⟨rfl, _, _, hco.out, c2, HR2.out.set0 _⟩), HK2.out.set_ _ _⟩
    · rw [Bool.eq_false_iff.2 c2] at hqq
      have h2 : decide (Lib.indexByte t s[0] < 0) = true := by rw [decide_eq_true_iff]; have := of_decide_eq_false hqq; omega
      go_wp2_with fail
      go_ret
      refine ⟨false, rfl, HB2.out, Lib.hid (.inr ⟨rfl, ?_, HR2.out⟩), HK2.out⟩
      intro c r h
      rw [hco.out] at h
      obtain ⟨rfl, _⟩ := List.cons.inj h
      exact Bool.eq_false_iff.2 c2
  · have ze : s.toList.isEmpty = true := by rw [bs_toList, List.isEmpty_iff]; exact List.length_eq_zero_iff.1 (by rw [bs_len]; omega)
    go_enter Tryz.func56, Tryz.ntmps56
    go_wp2_with fail
    go_ret
    refine ⟨false, rfl, Below.refl _ _, Lib.hid (.inr ⟨rfl, ?_, HR.out⟩), KeepBut.refl _ _ _⟩
    intro c r h
    have := congrArg List.length h
    rw [bs_len, List.length_cons] at this
    omega
theorem pass_walk (g : Nat) (s : ByteArray) (t : List UInt8) (q : UInt8 → Bool) (hq : ∀ c, t.contains c = q c) (u : Web.U) (w : World) (hs : s.size ≤ 4611686018427387904) (hr : RB w g s u) :
    Calls Tryz.prog 56 #[.pointer (some ⟨g, 0, none⟩), .string (ba t)] w fun e w' => ∃ b : Bool, e = .returned (.bool b) ∧ Below g w w' ∧
      Hid ((b = true ∧ ∃ c r, bs s = c :: bs r ∧ q c = true ∧ RB w' g r u) ∨ (b = false ∧ (∀ c r, bs s = c :: r → q c = false) ∧ RB w' g s u)) :=
  (pass_keep g s t q hq u w hs hr).mono fun _ _ ⟨b, h1, h2, h3, _⟩ => ⟨b, h1, h2, h3⟩
end Go.Proofs.YtcmcopieagpppaaGreatDoor.P
namespace Go.Proofs.YtcmcopieagpppaaGreatDoor.P
open Go.RowKit Go.Proofs.YtcmcopieagpppaaGreatDoorW.PrintWords Go.Proofs.YtcmcopieagpppaaGreatDoorW.PrintLast Go.Proofs.YtcmcopieagpppaaGreatDoorW.PrintMore
attribute [local go_sem] max2_int min2_int max_two min_two max_three min_three max_four min_four
set_option linter.unusedVariables false
set_option linter.unusedSimpArgs false
def url_letter.f (a0 : Int) : Option (Bool) := if a0 ≥ 97 then (if a0 ≤ 122 then (some true) else (if a0 ≥ 65 then (some (decide (a0 ≤ 90))) else (some false))) else (if a0 ≥ 65 then (some (decide (a0 ≤ 90))) else (some false))
set_option maxHeartbeats 8000000 in
set_option maxRecDepth 100000 in
theorem url_letter.calls (a0 : Int) (r : Bool) (w : World) (h : url_letter.f a0 = some r) :
    Calls Tryz.prog 88 #[.int .u8 a0] w fun e w' => e = .returned (.bool r) ∧ Drawn0 w w' := by
  have H : (if a0 ≥ 97 then (if a0 ≤ 122 then (some true) else (if a0 ≥ 65 then (some (decide (a0 ≤ 90))) else (some false))) else (if a0 ≥ 65 then (some (decide (a0 ≤ 90))) else (some false))) = some r := h
  clear h
  by_cases c2 : a0 ≥ 97
  · rw [if_pos c2] at H
    have c2b0 : decide (97 ≤ a0) = true := decide_eq_true c2
    clear c2
    by_cases c3 : a0 ≤ 122
    · rw [if_pos c3] at H
      have c3b0 : decide (a0 ≤ 122) = true := decide_eq_true c3
      clear c3
      obtain rfl := Option.some.inj H
      go_enter Tryz.func88, Tryz.ntmps88
      go_wp2
      go_ret
      exact ⟨by first | rfl | (simp; done) | (simp [*]; done), by repeat (first | exact Drawn0.refl _ | apply Drawn0.step)⟩
    · rw [if_neg c3] at H
      have c3b0 : decide (a0 ≤ 122) = false := decide_eq_false c3
      clear c3
      by_cases c4 : a0 ≥ 65
      · rw [if_pos c4] at H
        have c4b0 : decide (65 ≤ a0) = true := decide_eq_true c4
        clear c4
        obtain rfl := Option.some.inj H
        go_enter Tryz.func88, Tryz.ntmps88
        go_wp2
        go_ret
        exact ⟨by first | rfl | (simp; done) | (simp [*]; done), by repeat (first | exact Drawn0.refl _ | apply Drawn0.step)⟩
      · rw [if_neg c4] at H
        have c4b0 : decide (65 ≤ a0) = false := decide_eq_false c4
        clear c4
        obtain rfl := Option.some.inj H
        go_enter Tryz.func88, Tryz.ntmps88
        go_wp2
        go_ret
        exact ⟨by first | rfl | (simp; done) | (simp [*]; done), by repeat (first | exact Drawn0.refl _ | apply Drawn0.step)⟩
  · rw [if_neg c2] at H
    have c2b0 : decide (97 ≤ a0) = false := decide_eq_false c2
    clear c2
    by_cases c5 : a0 ≥ 65
    · rw [if_pos c5] at H
      have c5b0 : decide (65 ≤ a0) = true := decide_eq_true c5
      clear c5
      obtain rfl := Option.some.inj H
      go_enter Tryz.func88, Tryz.ntmps88
      go_wp2
      go_ret
      exact ⟨by first | rfl | (simp; done) | (simp [*]; done), by repeat (first | exact Drawn0.refl _ | apply Drawn0.step)⟩
    · rw [if_neg c5] at H
      have c5b0 : decide (65 ≤ a0) = false := decide_eq_false c5
      clear c5
      obtain rfl := Option.some.inj H
      go_enter Tryz.func88, Tryz.ntmps88
      go_wp2
      go_ret
      exact ⟨by first | rfl | (simp; done) | (simp [*]; done), by repeat (first | exact Drawn0.refl _ | apply Drawn0.step)⟩
end Go.Proofs.YtcmcopieagpppaaGreatDoor.P
namespace Go.Proofs.YtcmcopieagpppaaGreatDoor.P
open Go.RowKit Go.Proofs.YtcmcopieagpppaaGreatDoorW.PrintWords Go.Proofs.YtcmcopieagpppaaGreatDoorW.PrintLast Go.Proofs.YtcmcopieagpppaaGreatDoorW.PrintMore
attribute [local go_sem] max2_int min2_int max_two min_two max_three min_three max_four min_four
set_option linter.unusedVariables false
set_option linter.unusedSimpArgs false
mutual
def url_Default.j0 : Nat → ByteArray → Bool → Option (Int × Bool)
  | 0, _, _ => none
  | k + 1, x4, x5 => if x5 = true then (some (80, true)) else (if x4.toList = ([104, 116, 116, 112, 115] : List UInt8) then (url_Default.j1 k x4 (x4.toList == ([104, 116, 116, 112, 115] : List UInt8))) else (url_Default.j1 k x4 (x4.toList == ([119, 115, 115] : List UInt8))))
def url_Default.j1 : Nat → ByteArray → Bool → Option (Int × Bool)
  | 0, _, _ => none
  | k + 1, x4, x8 => if x8 = true then (some (443, true)) else (if x4.toList = ([102, 116, 112] : List UInt8) then (some (21, true)) else (some (0, false)))
end
def url_Default.f (k : Nat) (a0 : ByteArray) : Option (Int × Bool) := if a0.toList = ([104, 116, 116, 112] : List UInt8) then (url_Default.j0 k a0 (a0.toList == ([104, 116, 116, 112] : List UInt8))) else (url_Default.j0 k a0 (a0.toList == ([119, 115] : List UInt8)))
set_option maxHeartbeats 8000000 in
set_option maxRecDepth 100000 in
theorem url_Default.calls (k : Nat) (a0 : ByteArray) (r1 : Int) (r2 : Bool) (w : World) (h : url_Default.f k a0 = some (r1, r2)) :
    Calls Tryz.prog 25 #[.string a0] w fun e w' => e = .returned (.tuple #[.int .i64 r1, .bool r2]) ∧ Drawn0 w w' := by
  have H : (if a0.toList = ([104, 116, 116, 112] : List UInt8) then (url_Default.j0 k a0 (a0.toList == ([104, 116, 116, 112] : List UInt8))) else (url_Default.j0 k a0 (a0.toList == ([119, 115] : List UInt8)))) = some (r1, r2) := h
  clear h
  have HC2 := Aside0.mk H
  clear H
  go_enter Tryz.func25, Tryz.ntmps25
  go_upto_if 5 with (fail)
  go_cut [5] (fun v5 wc => ∃ (kq : Nat) (x5_1 : Bool), v5 = .bool x5_1 ∧ Aside0 (url_Default.j0 kq a0 x5_1 = some (r1, r2)) ∧ Aside0 (kq ≤ k) ∧ Drawn0 w wc)
  case first =>
    have H := HC2.out
    clear HC2
    by_cases c3 : a0.toList = ([104, 116, 116, 112] : List UInt8)
    · rw [if_pos c3] at H
      have c3b0 : (a0.toList == ([104, 116, 116, 112] : List UInt8)) = true := beq_iff_eq.mpr c3
      have c3b1 : (a0.toList != ([104, 116, 116, 112] : List UInt8)) = false := bne_eq_false_iff_eq.mpr c3
      clear c3
      (first | rw [c3b0] | (simp only [i64_w, i32_w]; rw [c3b0]) | skip)
      have H' := Aside0.mk H
      clear H
      go_wp2
      go_meet
      case rel => exact ⟨_, ((a0.toList == ([104, 116, 116, 112] : List UInt8))), (by first | rfl | (simp; done) | (simp [*]; done)), H', ⟨by first | omega | exact Nat.le_refl _⟩, by repeat (first | exact Drawn0.refl _ | apply Drawn0.step)⟩
    · rw [if_neg c3] at H
      have c3b0 : (a0.toList == ([104, 116, 116, 112] : List UInt8)) = false := beq_eq_false_iff_ne.mpr c3
      have c3b1 : (a0.toList != ([104, 116, 116, 112] : List UInt8)) = true := bne_iff_ne.mpr c3
      (first | rw [c3b0] | (simp only [i64_w, i32_w]; rw [c3b0]) | skip)
      have H' := Aside0.mk H
      clear H
      go_wp2
      go_meet
      case rel => exact ⟨_, ((a0.toList == ([119, 115] : List UInt8))), (by first | rfl | (simp; done) | (simp [*]; done)), H', ⟨by first | omega | exact Nat.le_refl _⟩, by repeat (first | exact Drawn0.refl _ | apply Drawn0.step)⟩
  case rest =>
    clear HC2
    try clear c2
    try clear p2
    try clear c3
    try clear c3b0
    try clear c3b1
    obtain ⟨kq, x5_1, rfl, HA, HJ1, ⟨mc1, rfl⟩⟩ := hcut
    cases kq with
    | zero => exact absurd HA.out (by simp [url_Default.j0])
    | succ kj1 =>
      have H := HA.out
      clear HA
      simp only [url_Default.j0] at H
      by_cases c4 : x5_1 = true
      · subst c4
        have H1 : (some (80, true)) = some (r1, r2) := by rw [if_pos rfl] at H; exact H
        clear H
        have H := H1
        clear H1
        simp only [Option.some.injEq, Prod.mk.injEq] at H
        obtain ⟨rfl, rfl⟩ := H
        go_wp2
        go_ret2
        exact ⟨by first | rfl | (simp; done) | (simp [*]; done), by repeat (first | exact Drawn0.refl _ | apply Drawn0.step)⟩
      · replace c4 := Bool.eq_false_iff.mpr c4
        subst c4
        have H1 : (if a0.toList = ([104, 116, 116, 112, 115] : List UInt8) then (url_Default.j1 kj1 a0 (a0.toList == ([104, 116, 116, 112, 115] : List UInt8))) else (url_Default.j1 kj1 a0 (a0.toList == ([119, 115, 115] : List UInt8)))) = some (r1, r2) := by rw [if_neg (show ¬ (false = true) by decide)] at H; exact H
        clear H
        have H := H1
        clear H1
        have HC5 := Aside0.mk H
        clear H
        go_upto_if 8 with (fail)
        go_cut [8] (fun v8 wc => ∃ (kq : Nat) (x8_4 : Bool), v8 = .bool x8_4 ∧ Aside0 (url_Default.j1 kq a0 x8_4 = some (r1, r2)) ∧ Aside0 (kq ≤ kj1) ∧ Drawn0 w wc)
        case first =>
          have H := HC5.out
          clear HC5
          by_cases c6 : a0.toList = ([104, 116, 116, 112, 115] : List UInt8)
          · rw [if_pos c6] at H
            have c6b0 : (a0.toList == ([104, 116, 116, 112, 115] : List UInt8)) = true := beq_iff_eq.mpr c6
            have c6b1 : (a0.toList != ([104, 116, 116, 112, 115] : List UInt8)) = false := bne_eq_false_iff_eq.mpr c6
            clear c6
            (first | rw [c6b0] | (simp only [i64_w, i32_w]; rw [c6b0]) | skip)
            have H' := Aside0.mk H
            clear H
            go_wp2
            go_meet
            case rel => exact ⟨_, ((a0.toList == ([104, 116, 116, 112, 115] : List UInt8))), (by first | rfl | (simp; done) | (simp [*]; done)), H', ⟨by have := HJ1.out; first | omega | exact Nat.le_refl _⟩, by repeat (first | exact Drawn0.refl _ | apply Drawn0.step)⟩
          · rw [if_neg c6] at H
            have c6b0 : (a0.toList == ([104, 116, 116, 112, 115] : List UInt8)) = false := beq_eq_false_iff_ne.mpr c6
            have c6b1 : (a0.toList != ([104, 116, 116, 112, 115] : List UInt8)) = true := bne_iff_ne.mpr c6
            (first | rw [c6b0] | (simp only [i64_w, i32_w]; rw [c6b0]) | skip)
            have H' := Aside0.mk H
            clear H
            go_wp2
            go_meet
            case rel => exact ⟨_, ((a0.toList == ([119, 115, 115] : List UInt8))), (by first | rfl | (simp; done) | (simp [*]; done)), H', ⟨by have := HJ1.out; first | omega | exact Nat.le_refl _⟩, by repeat (first | exact Drawn0.refl _ | apply Drawn0.step)⟩
        case rest =>
          clear HC5
          try clear c1
          try clear c2
          try clear p2
          try clear c3
          try clear c3b0
          try clear c3b1
          try clear c4
          try clear c6
          try clear c6b0
          try clear c6b1
          try clear p2
          obtain ⟨kq, x8_4, rfl, HA, HJ4, ⟨mc4, rfl⟩⟩ := hcut
          cases kq with
          | zero => exact absurd HA.out (by simp [url_Default.j1])
          | succ kj4 =>
            have H := HA.out
            clear HA
            simp only [url_Default.j1] at H
            by_cases c7 : x8_4 = true
            · subst c7
              have H1 : (some (443, true)) = some (r1, r2) := by rw [if_pos rfl] at H; exact H
              clear H
              have H := H1
              clear H1
              simp only [Option.some.injEq, Prod.mk.injEq] at H
              obtain ⟨rfl, rfl⟩ := H
              go_wp2
              go_ret2
              exact ⟨by first | rfl | (simp; done) | (simp [*]; done), by repeat (first | exact Drawn0.refl _ | apply Drawn0.step)⟩
            · replace c7 := Bool.eq_false_iff.mpr c7
              subst c7
              have H1 : (if a0.toList = ([102, 116, 112] : List UInt8) then (some (21, true)) else (some (0, false))) = some (r1, r2) := by rw [if_neg (show ¬ (false = true) by decide)] at H; exact H
              clear H
              have H := H1
              clear H1
              by_cases c8 : a0.toList = ([102, 116, 112] : List UInt8)
              · rw [if_pos c8] at H
                have c8b0 : (a0.toList == ([102, 116, 112] : List UInt8)) = true := beq_iff_eq.mpr c8
                have c8b1 : (a0.toList != ([102, 116, 112] : List UInt8)) = false := bne_eq_false_iff_eq.mpr c8
                clear c8
                simp only [Option.some.injEq, Prod.mk.injEq] at H
                obtain ⟨rfl, rfl⟩ := H
                go_wp2
                go_ret2
                exact ⟨by first | rfl | (simp; done) | (simp [*]; done), by repeat (first | exact Drawn0.refl _ | apply Drawn0.step)⟩
              · rw [if_neg c8] at H
                have c8b0 : (a0.toList == ([102, 116, 112] : List UInt8)) = false := beq_eq_false_iff_ne.mpr c8
                have c8b1 : (a0.toList != ([102, 116, 112] : List UInt8)) = true := bne_iff_ne.mpr c8
                simp only [Option.some.injEq, Prod.mk.injEq] at H
                obtain ⟨rfl, rfl⟩ := H
                go_wp2
                go_ret2
                exact ⟨by first | rfl | (simp; done) | (simp [*]; done), by repeat (first | exact Drawn0.refl _ | apply Drawn0.step)⟩
end Go.Proofs.YtcmcopieagpppaaGreatDoor.P
namespace Go.Proofs.YtcmcopieagpppaaGreatDoor.P
open Go.RowKit Go.Proofs.YtcmcopieagpppaaGreatDoorW.PrintWords Go.Proofs.YtcmcopieagpppaaGreatDoorW.PrintLast Go.Proofs.YtcmcopieagpppaaGreatDoorW.PrintMore
set_option linter.unusedVariables false
set_option linter.unusedSimpArgs false
theorem url_letter_eq (c : UInt8) : url_letter.f (c.toNat : Int) = some (isLetter c) := by
  unfold url_letter.f isLetter
  by_cases a : 97 ≤ c.toNat
  · rw [if_pos (by omega)]
    by_cases b : c.toNat ≤ 122
    · rw [if_pos (by omega), decide_eq_true ⟨a, b⟩]; rfl
    · rw [if_neg (by omega), if_pos (by omega), decide_eq_false (by omega), decide_eq_false (by omega), decide_eq_false (by omega)]; rfl
  · rw [if_neg (by omega), decide_eq_false (by omega : ¬ (97 ≤ c.toNat ∧ c.toNat ≤ 122)), Bool.false_or]
    by_cases d : 65 ≤ c.toNat
    · rw [if_pos (by omega)]
      congr 1
      rw [decide_eq_decide]
      omega
    · rw [if_neg (by omega), decide_eq_false (by omega)]
theorem url_letter_c (c : UInt8) (w : World) : Calls Tryz.prog 88 #[.int .u8 (c.toNat : Int)] w fun e w' => e = .returned (.bool (isLetter c)) ∧ Drawn0 w w' :=
  url_letter.calls _ _ w (url_letter_eq c)
theorem url_default_eq (l : List UInt8) (k : Nat) : url_Default.f (k + 3) (ba l) = some (portP l) := by
  have e := ba_toList l
  simp only [url_Default.f, url_Default.j0, url_Default.j1, e]
  unfold portP Web.port?
  by_cases h1 : l = [104, 116, 116, 112]
  · subst h1; rfl
  by_cases h2 : l = [119, 115]
  · subst h2; rfl
  by_cases h3 : l = [104, 116, 116, 112, 115]
  · subst h3; rfl
  by_cases h4 : l = [119, 115, 115]
  · subst h4; rfl
  by_cases h5 : l = [102, 116, 112]
  · subst h5; rfl
  simp [h1, h2, h3, h4, h5]
theorem url_default_c (s : ByteArray) (w : World) :
    Calls Tryz.prog 25 #[.string s] w fun e w' => e = .returned (.tuple #[.int .i64 (portP (bs s)).1, .bool (portP (bs s)).2]) ∧ Drawn0 w w' :=
  url_Default.calls 3 s _ _ w (url_default_eq (bs s) 0)
theorem lower_c (s : ByteArray) (w : World) (hs : s.size ≤ 140737488351232) :
    Calls Tryz.prog 90 #[.string s] w fun e w' => ∃ r : ByteArray, e = .returned (.string r) ∧ Hid (bs r = Web.lowerL (bs s)) ∧ r.size = s.size ∧ Below w.heap.size w w' := by
  refine (ascii_Lower.calls s ⟨(Web.lowerL s.data.toList).toArray⟩ w (by unfold ascii_Lower.f; rw [if_pos hs])).mono ?_
  rintro e w1 ⟨rfl, hb⟩
  refine ⟨_, rfl, Lib.hid rfl, ?_, hb⟩
  show (Web.lowerL (bs s)).length = _
  rw [Web.lowerL_length, bs_len]
def SchemeIs (b : Bool) (w' : World) (g : Nat) (s : List UInt8) (u : Web.U) : Prop :=
  (b = true ∧ ∃ (d : Nat) (r : ByteArray), Web.port? (Web.lowerL (Web.brk (· == 58) s).1) = some d ∧ (Web.brk (· == 58) s).2 = 58 :: bs r ∧ RB w' g r { u with scheme := Web.lowerL (Web.brk (· == 58) s).1 }) ∨
  (b = false ∧ ∀ c r, (Web.brk (· == 58) s).2 = c :: r → Web.port? (Web.lowerL (Web.brk (· == 58) s).1) = none)
theorem not_port {l : List UInt8} {c : UInt8} (hc : c ∈ l) (h : isLetter c = false) : Web.port? (Web.lowerL l) = none := by
  cases hp : Web.port? (Web.lowerL l) with
  | none => rfl
  | some d =>
    have := (port_letters l d hp).2 c hc
    rw [h] at this
    cases this
theorem brk_snd_head (q : UInt8 → Bool) (l : List UInt8) (c : UInt8) (r : List UInt8) (h : (Web.brk q l).2 = c :: r) : q c = true := by
  have := List.head?_dropWhile_not (p := fun c => !(q c)) (l := l)
  have e3 : l.dropWhile (fun c => !(q c)) = c :: r := h
  rw [e3] at this
  simpa using this
set_option maxRecDepth 100000 in
set_option maxHeartbeats 2000000 in
theorem scheme_walk (g : Nat) (s : ByteArray) (u : Web.U) (w : World) (hs : s.size ≤ 100000) (hr : RB w g s u) :
    Calls Tryz.prog 55 #[.pointer (some ⟨g, 0, none⟩)] w fun e w' => ∃ b : Bool, e = .returned (.bool b) ∧ Below g w w' ∧ Hid (SchemeIs b w' g (bs s) u) := by
  have HR := Lib.hid hr
  clear hr
  go_enter Tryz.func55, Tryz.ntmps55
  go_wp2_with fail
  refine (upTo_walk g s [58] (· == 58) is58 u _ (by omega) HR.out).mono ?_
  rintro e w1 ⟨a, b, rfl, HA, hb1, HR1⟩
  have HB1 := Lib.hid hb1
  clear HR hb1
  have hab : a.size + b.size = s.size := by
    have := congrArg List.length (List.takeWhile_append_dropWhile (p := fun c => !(c == 58)) (l := bs s))
    have e1 : (bs a).length = ((bs s).takeWhile fun c => !(c == 58)).length := by rw [HA.out.1]; rfl
    have e2 : (bs b).length = ((bs s).dropWhile fun c => !(c == 58)).length := by rw [HA.out.2]; rfl
    rw [List.length_append, ← e1, ← e2, bs_len, bs_len, bs_len] at this
    exact this
  go_wp2_with fail
  go_loopw [14] (fun v14 wr => ∃ i : Nat, v14 = .int .i64 (i : Int) ∧ i ≤ a.size ∧ Hid (RB wr g b u) ∧ Hid (Below g w wr)) (fun v _ => ((a.size : Int) - intOf v).toNat)
  case atStart => exact ⟨0, rfl, by omega, HR1, HB1⟩
  case round =>
    obtain ⟨i, rfl, hi, HR2, HB2⟩ := hrel
    clear HR1 HB1
    by_cases c1 : i < a.size
    · have c1' : decide ((i : Int) < (a.size : Int)) = true := decide_eq_true (by omega)
      go_wp2_with fail
      refine (url_letter_c a[i] _).mono ?_
      rintro e w2 ⟨rfl, d2⟩
      have HR3 := Lib.hid (HR2.out.below d2.below)
      have HB3 := Lib.hid (below_g HB2.out (Nat.le_of_lt HR2.out.lt) d2.below)
      clear HR2 HB2 d2
      by_cases c2 : isLetter a[i] = true
      · rw [c2]
        go_wp2_with fail
        go_roundw
        case rel => exact ⟨i + 1, rfl, by omega, HR3, HB3⟩
        case measure => simp [intOf]; omega
      · have c2' := Bool.eq_false_iff.2 c2
        rw [c2']
        have BAD := Lib.hid (show ∀ c r, (Web.brk (· == 58) (bs s)).2 = c :: r → Web.port? (Web.lowerL (Web.brk (· == 58) (bs s)).1) = none from fun c r _ => by
          rw [← HA.out.1]
          exact not_port (List.getElem_mem (by rw [bs_len]; exact c1)) c2')
        clear c2 c2'
        by_cases c3 : i = 0
        · have c3' : ((i : Int) == 0) = true := beq_iff_eq.2 (by omega)
          go_wp2_with fail
          go_ret
          exact ⟨false, rfl, HB3.out, Lib.hid (.inr ⟨rfl, BAD.out⟩)⟩
        · have c3' : ((i : Int) == 0) = false := beq_eq_false_iff_ne.2 (by omega)
          have idx := fun (w3 : World) => (indexByte_c [43, 45, 46] a[i] w3)
          by_cases c4 : 48 ≤ a[i].toNat
          · have c4' : decide (48 ≤ (a[i].toNat : Int)) = true := decide_eq_true (by omega)
            by_cases c5 : a[i].toNat ≤ 57
            · have c5' : decide ((a[i].toNat : Int) ≤ 57) = true := decide_eq_true (by omega)
              go_wp2_with fail
              go_roundw
              case rel => exact ⟨i + 1, rfl, by omega, HR3, HB3⟩
              case measure => simp [intOf]; omega
            · have c5' : decide ((a[i].toNat : Int) ≤ 57) = false := decide_eq_false (by omega)
              go_wp2_with fail
              refine (idx _).mono ?_
              rintro e w3 ⟨rfl, d3⟩
              have HR4 := Lib.hid (HR3.out.below d3.below)
              have HB4 := Lib.hid (below_g HB3.out (Nat.le_of_lt HR3.out.lt) d3.below)
              clear HR3 HB3 d3
              by_cases c6 : 0 ≤ Lib.indexByte [43, 45, 46] a[i]
              · have c6' : decide (0 ≤ Lib.indexByte [43, 45, 46] a[i]) = true := decide_eq_true c6
                go_wp2_with fail
                go_roundw
                case rel => exact ⟨i + 1, rfl, by omega, HR4, HB4⟩
                case measure => simp [intOf]; omega
              · have c6' : decide (0 ≤ Lib.indexByte [43, 45, 46] a[i]) = false := decide_eq_false c6
                go_wp2_with fail
                go_ret
                exact ⟨false, rfl, HB4.out, Lib.hid (.inr ⟨rfl, BAD.out⟩)⟩
          · have c4' : decide (48 ≤ (a[i].toNat : Int)) = false := decide_eq_false (by omega)
            go_wp2_with fail
            refine (idx _).mono ?_
            rintro e w3 ⟨rfl, d3⟩
            have HR4 := Lib.hid (HR3.out.below d3.below)
            have HB4 := Lib.hid (below_g HB3.out (Nat.le_of_lt HR3.out.lt) d3.below)
            clear HR3 HB3 d3
            by_cases c6 : 0 ≤ Lib.indexByte [43, 45, 46] a[i]
            · have c6' : decide (0 ≤ Lib.indexByte [43, 45, 46] a[i]) = true := decide_eq_true c6
              go_wp2_with fail
              go_roundw
              case rel => exact ⟨i + 1, rfl, by omega, HR4, HB4⟩
              case measure => simp [intOf]; omega
            · have c6' : decide (0 ≤ Lib.indexByte [43, 45, 46] a[i]) = false := decide_eq_false c6
              go_wp2_with fail
              go_ret
              exact ⟨false, rfl, HB4.out, Lib.hid (.inr ⟨rfl, BAD.out⟩)⟩
    · have c1' : decide ((i : Int) < (a.size : Int)) = false := decide_eq_false (by omega)
      go_wp2_with fail
      refine (lower_c a _ (by omega)).mono ?_
      rintro e w2 ⟨sc, rfl, HL, hsc, b2⟩
      have R3 := HR2.out.below b2
      have HB3 := Lib.hid (below_g HB2.out (Nat.le_of_lt HR2.out.lt) b2)
      have c0 := R3.c1
      have f0 := R3.f 1
      have HR3 := Lib.hid (R3.set1 (bs sc))
      have HB4 := Lib.hid (below_gset HB3.out 1 (.string sc))
      have cc := HR3.out.c1
      clear R3 HR2 HB2 b2 HB3
      go_wp2_with fail
      have HR5 := Lib.hid (show RB (w2.setCell ⟨g, 1, none⟩ (.string sc)) g b { u with scheme := Web.lowerL (Web.brk (· == 58) (bs s)).1 } by
        rw [← HA.out.1, ← HL.out]; exact HR3.out)
      clear HR3 cc c0 f0
      refine (url_default_c sc _).mono ?_
      rintro e w3 ⟨rfl, d3⟩
      have HR6 := Lib.hid (HR5.out.below d3.below)
      have HB6 := Lib.hid (below_g HB4.out (Nat.le_of_lt HR5.out.lt) d3.below)
      clear HR5 HB4 d3
      cases hp : Web.port? (bs sc) with
      | none =>
        have e1 : portP (bs sc) = (0, false) := by unfold portP; rw [hp]
        rw [e1]
        have BAD := Lib.hid (show ∀ c r, (Web.brk (· == 58) (bs s)).2 = c :: r → Web.port? (Web.lowerL (Web.brk (· == 58) (bs s)).1) = none from fun c r _ => by
          rw [← HA.out.1, ← HL.out]; exact hp)
        clear hp
        go_wp2_with fail
        go_ret
        exact ⟨false, rfl, HB6.out, Lib.hid (.inr ⟨rfl, BAD.out⟩)⟩
      | some d =>
        have e1 : portP (bs sc) = ((d : Int), true) := by unfold portP; rw [hp]
        rw [e1]
        have HD := Lib.hid (show Web.port? (Web.lowerL (Web.brk (· == 58) (bs s)).1) = some d by rw [← HA.out.1, ← HL.out]; exact hp)
        clear hp e1
        go_wp2_with fail
        refine (pass_walk g b [58] (· == 58) is58 _ _ (by omega) HR6.out).mono ?_
        rintro e w4 ⟨p, rfl, b4, HP⟩
        have HB7 := Lib.hid (HB6.out.trans b4)
        clear HR6 HB6 b4
        rcases HP.out with ⟨rfl, c, r, hc, hq, hr⟩ | ⟨rfl, hc, hr⟩
        · have OK := Lib.hid (show SchemeIs true w4 g (bs s) u from .inl ⟨rfl, d, r, HD.out, by rw [← HA.out.2, hc]; congr 1; exact beq_iff_eq.1 hq, hr⟩)
          clear hr hc HP
          go_wp2_with fail
          go_ret
          exact ⟨true, rfl, HB7.out, OK⟩
        · have NO := Lib.hid (show SchemeIs false w4 g (bs s) u from .inr ⟨rfl, fun c r h => by
            exfalso
            have h1 := brk_snd_head _ _ c r h
            rw [← HA.out.2] at h
            have h2 := hc c r h
            rw [h1] at h2
            cases h2⟩)
          clear hr hc HP
          go_wp2_with fail
          go_ret
          exact ⟨false, rfl, HB7.out, NO⟩
end Go.Proofs.YtcmcopieagpppaaGreatDoor.P
namespace Go.Proofs.YtcmcopieagpppaaGreatDoor.P
open Go.RowKit Go.Proofs.YtcmcopieagpppaaGreatDoorW.PrintWords Go.Proofs.YtcmcopieagpppaaGreatDoorW.PrintLast Go.Proofs.YtcmcopieagpppaaGreatDoorW.PrintMore
set_option linter.unusedVariables false
set_option linter.unusedSimpArgs false
def PortIs (b : Bool) (w' : World) (g d : Nat) (s : List UInt8) (r : ByteArray) (u : Web.U) : Prop :=
  (b = true ∧ ∃ p, Web.portOf d s = some p ∧ RB w' g r { u with port := p }) ∨ (b = false ∧ Web.portOf d s = none)
theorem hexV_dig (c : UInt8) (h1 : 48 ≤ c.toNat) (h2 : c.toNat ≤ 57) : Web.hexV c = some (c.toNat - 48) := by
  unfold Web.hexV
  rw [if_pos ⟨h1, h2⟩]
theorem not_dig10 (l : List UInt8) (c : UInt8) (hc : c ∈ l) (h : c.toNat < 48 ∨ 57 < c.toNat) : Web.allDig 10 l = false := by
  unfold Web.allDig
  rw [List.all_eq_false]
  refine ⟨c, hc, ?_⟩
  cases hv : Web.hexV c with
  | none => simp
  | some v =>
    simp only [decide_eq_true_eq]
    intro hl
    have := dig10 c v hv hl
    omega
theorem portOf_bad (d : Nat) (l : List UInt8) (h : Web.allDig 10 l = false) : Web.portOf d l = none := by
  unfold Web.portOf
  by_cases h0 : l = []
  · subst h0; cases h
  · rw [if_neg h0, h]; rfl
theorem portOf_big (d : Nat) (l : List UInt8) (h0 : l ≠ []) (h : 65535 < Web.value 10 l) : Web.portOf d l = none := by
  unfold Web.portOf
  rw [if_neg h0]
  split <;> first | rfl | rw [if_pos h]
theorem portOf_ok (d : Nat) (l : List UInt8) (h1 : Web.allDig 10 l = true) (h2 : Web.value 10 l ≤ 65535) : Web.portOf d l = some (if l = [] ∨ Web.value 10 l = d then -1 else (Web.value 10 l : Int)) := by
  unfold Web.portOf
  by_cases h0 : l = []
  · rw [if_pos h0, if_pos (.inl h0)]
  · rw [if_neg h0, h1, if_neg (by decide), if_neg (by omega)]
    by_cases h3 : Web.value 10 l = d
    · rw [if_pos h3, if_pos (.inr h3)]
    · rw [if_neg h3, if_neg (by rintro (h | h); exact h0 h; exact h3 h)]
set_option maxRecDepth 100000 in
set_option maxHeartbeats 2000000 in
theorem port_walk (g d : Nat) (r s : ByteArray) (u : Web.U) (w : World) (hs : s.size ≤ 100000) (hd : (portP u.scheme).1 = (d : Int)) (hr : RB w g r u) :
    Calls Tryz.prog 92 #[.pointer (some ⟨g, 0, none⟩), .string s] w fun e w' => ∃ b : Bool, e = .returned (.bool b) ∧ Below g w w' ∧ Hid (PortIs b w' g d (bs s) r u) := by
  have HR := Lib.hid hr
  clear hr
  go_enter Tryz.func92, Tryz.ntmps92
  go_wp2_with fail
  go_loopw [5, 11] (fun v5 v11 wr => ∃ (m i : Nat), v5 = .int .i64 (m : Int) ∧ v11 = .int .i64 (i : Int) ∧ wr = w ∧ Hid (m = Web.value 10 ((bs s).take i) ∧ Web.allDig 10 ((bs s).take i) = true) ∧ m ≤ 65535 ∧ i ≤ s.size) (fun _ v _ => ((s.size : Int) - intOf v).toNat)
  case atStart => exact ⟨0, 0, rfl, rfl, rfl, Lib.hid ⟨rfl, rfl⟩, by omega, by omega⟩
  case round =>
    obtain ⟨m, i, rfl, rfl, rfl, HM, hm, hi⟩ := hrel
    by_cases c1 : i < s.size
    · have c1' : decide ((i : Int) < (s.size : Int)) = true := decide_eq_true (by omega)
      have hil : i < (bs s).length := by rw [bs_len]; exact c1
      have hget : (bs s)[i] = s[i] := rfl
      have hmem : s[i] ∈ bs s := List.getElem_mem hil
      by_cases c2 : s[i].toNat < 48
      · have c2' : decide ((s[i].toNat : Int) < 48) = true := decide_eq_true (by omega)
        have NO := Lib.hid (portOf_bad d _ (not_dig10 _ _ hmem (.inl c2)))
        clear hmem hget
        go_wp2_with fail
        go_ret
        first | exact ⟨false, rfl, Below.refl _ _, Lib.hid (.inr ⟨rfl, NO.out⟩)⟩ | exact .inl ⟨rfl, Below.refl _ _, Lib.hid (.inr ⟨rfl, NO.out⟩)⟩
      · have c2' : decide ((s[i].toNat : Int) < 48) = false := decide_eq_false (by omega)
        by_cases c3 : 57 < s[i].toNat
        · have c3' : decide (57 < (s[i].toNat : Int)) = true := decide_eq_true (by omega)
          have NO := Lib.hid (portOf_bad d _ (not_dig10 _ _ hmem (.inr c3)))
          clear hmem hget
          go_wp2_with fail
          go_ret
          first | exact ⟨false, rfl, Below.refl _ _, Lib.hid (.inr ⟨rfl, NO.out⟩)⟩ | exact .inl ⟨rfl, Below.refl _ _, Lib.hid (.inr ⟨rfl, NO.out⟩)⟩
        · have c3' : decide (57 < (s[i].toNat : Int)) = false := decide_eq_false (by omega)
          have hv := hexV_dig s[i] (by omega) (by omega)
          obtain ⟨v, hv48⟩ : ∃ v, s[i].toNat = 48 + v := ⟨s[i].toNat - 48, by omega⟩
          have hv9 : v ≤ 9 := by omega
          have HN := Lib.hid (show Web.value 10 ((bs s).take (i + 1)) = 10 * m + v ∧ Web.allDig 10 ((bs s).take (i + 1)) = true by
            have et : (bs s).take (i + 1) = (bs s).take i ++ [s[i]] := by rw [List.take_add_one, List.getElem?_eq_getElem hil]; rfl
            rw [et, value_snoc, hv, HM.out.1]
            refine ⟨by simp only [Option.getD_some]; omega, ?_⟩
            have h1 := HM.out.2
            unfold Web.allDig at h1 ⊢
            rw [List.all_append, h1, Bool.true_and, List.all_cons, List.all_nil, hv]
            simp only [Bool.and_true, decide_eq_true_eq]
            omega)
          clear hv hmem hget
          by_cases c4 : 65535 < 10 * m + v
          · have c4' : decide (65535 < 10 * (m : Int) + (v : Int)) = true := decide_eq_true (by omega)
            have NO := Lib.hid (show Web.portOf d (bs s) = none by
              have := value_mono 10 (by omega) (bs s) (i + 1)
              have h2 := HN.out.1
              refine portOf_big d _ (fun h => ?_) (by omega)
              rw [h] at hil
              simp at hil)
            go_wp2_with fail
            go_ret
            first | exact ⟨false, rfl, Below.refl _ _, Lib.hid (.inr ⟨rfl, NO.out⟩)⟩ | exact .inl ⟨rfl, Below.refl _ _, Lib.hid (.inr ⟨rfl, NO.out⟩)⟩
          · have c4' : decide (65535 < 10 * (m : Int) + (v : Int)) = false := decide_eq_false (by omega)
            go_wp2_with fail
            go_roundw
            case rel => exact ⟨10 * m + v, i + 1, by congr 1; omega, rfl, by first | rfl | trivial, Lib.hid ⟨HN.out.1.symm, HN.out.2⟩, by omega, by omega⟩
            case measure => simp [intOf]; omega
    · have c1' : decide ((i : Int) < (s.size : Int)) = false := decide_eq_false (by omega)
      have hall : (bs s).take i = bs s := List.take_of_length_le (by rw [bs_len]; omega)
      have OK := Lib.hid (show Web.portOf d (bs s) = some (if bs s = [] ∨ m = d then -1 else (m : Int)) by
        have h1 := HM.out
        rw [hall] at h1
        rw [h1.1]
        exact portOf_ok d _ h1.2 (by omega))
      clear hall HM
      have f5 := HR.out.f 5
      have c5 := HR.out.c5
      have HR2 := Lib.hid (HR.out.set5 (m : Int))
      have HB2 := Lib.hid (below_gset (Below.refl g wr) 5 (.int .i64 (m : Int)))
      have cc1 := HR2.out.c1
      go_wp2_with fail
      refine (url_default_c _ _).mono ?_
      rintro e w2 ⟨rfl, d2⟩
      have HR3 := Lib.hid (HR2.out.below d2.below)
      have HB3 := Lib.hid (below_g HB2.out (Nat.le_of_lt HR2.out.lt) d2.below)
      clear HR2 HB2 d2 f5 c5 cc1
      rw [bs_ba, hd]
      have f5 := HR3.out.f 5
      have c5 := HR3.out.c5
      by_cases z : bs s = []
      · have ze : s.toList.isEmpty = true := by rw [bs_toList, z]; rfl
        have OK2 := Lib.hid (show Web.portOf d (bs s) = some (-1) by rw [OK.out, if_pos (.inl z)])
        clear z OK
        go_wp2_with fail
        go_ret
        exact ⟨true, rfl, below_gset HB3.out _ _, Lib.hid (.inl ⟨rfl, -1, OK2.out, HR3.out.set5 (-1)⟩)⟩
      · have ze : s.toList.isEmpty = false := by rw [bs_toList, List.isEmpty_eq_false_iff]; exact z
        by_cases y : m = d
        · have ye : ((m : Int) == (d : Int)) = true := beq_iff_eq.2 (by omega)
          have OK2 := Lib.hid (show Web.portOf d (bs s) = some (-1) by rw [OK.out, if_pos (.inr y)])
          clear z OK
          go_wp2_with fail
          go_ret
          exact ⟨true, rfl, below_gset HB3.out _ _, Lib.hid (.inl ⟨rfl, -1, OK2.out, HR3.out.set5 (-1)⟩)⟩
        · have ye : ((m : Int) == (d : Int)) = false := beq_eq_false_iff_ne.2 (by omega)
          have OK2 := Lib.hid (show Web.portOf d (bs s) = some (m : Int) by rw [OK.out, if_neg (by rintro (h | h); exact z h; exact y h)])
          clear z OK
          go_wp2_with fail
          go_ret
          exact ⟨true, rfl, HB3.out, Lib.hid (.inl ⟨rfl, m, OK2.out, HR3.out⟩)⟩
end Go.Proofs.YtcmcopieagpppaaGreatDoor.P
namespace Go.Proofs.YtcmcopieagpppaaGreatDoor.P
open Go.RowKit Go.Proofs.YtcmcopieagpppaaGreatDoorW.PrintWords Go.Proofs.YtcmcopieagpppaaGreatDoorW.PrintLast Go.Proofs.YtcmcopieagpppaaGreatDoorW.PrintMore
set_option linter.unusedVariables false
set_option linter.unusedSimpArgs false
theorem cut_brk (l : List UInt8) (c : UInt8) : (Lib.cut l [c]).1 = (Web.brk (· == c) l).1 ∧ (Lib.cut l [c]).2.1 = (Web.brk (· == c) l).2.drop 1 := by
  unfold Lib.cut
  rw [Lib.index_one]
  by_cases h : 0 ≤ Lib.indexByte l c
  · obtain ⟨o, ho⟩ := Int.eq_ofNat_of_zero_le h
    rw [if_pos h, ho]
    obtain ⟨h1, h2⟩ := Lib.indexByte_some ho
    have hol : o < l.length := (List.getElem?_eq_some_iff.1 h1).1
    rw [List.getElem?_eq_getElem hol] at h1
    have hb := brk_at (· == c) l o hol (fun x hx => beq_eq_false_iff_ne.2 (by
      rintro rfl
      obtain ⟨k, hk, e⟩ := List.getElem_of_mem hx
      rw [List.length_take] at hk
      rw [List.getElem_take] at e
      exact h2 k (by omega) ((List.getElem?_eq_getElem (by omega)).trans (congrArg some e)))) (by rw [Option.some.inj h1]; exact beq_self_eq_true c)
    rw [hb]
    refine ⟨rfl, ?_⟩
    show l.drop (o + 1) = (l.drop o).drop 1
    rw [List.drop_drop]
  · rw [if_neg h]
    have hm : Lib.indexByte l c = -1 := by have := Lib.indexByte_ge l c; omega
    have h3 := Lib.indexByte_none hm
    rw [brk_all (· == c) l (fun x hx => beq_eq_false_iff_ne.2 (by
      rintro rfl
      obtain ⟨k, hk, e⟩ := List.getElem_of_mem hx
      exact h3 k (by rw [List.getElem?_eq_getElem hk, e])))]
    exact ⟨rfl, rfl⟩
theorem brk_len (q : UInt8 → Bool) (l : List UInt8) : (Web.brk q l).1.length + (Web.brk q l).2.length = l.length := by
  have := congrArg List.length (List.takeWhile_append_dropWhile (p := fun c => !(q c)) (l := l))
  rw [List.length_append] at this
  exact this
theorem cut_c (s : ByteArray) (w : World) (hs : s.size ≤ 140737488351232) :
    Calls Tryz.prog 77 #[.string s, .string ⟨#[58]⟩] w fun e w' => ∃ (a b : ByteArray) (f : Bool), e = .returned (.tuple #[.string a, .string b, .bool f]) ∧ Hid (bs a = (Web.brk (· == 58) (bs s)).1 ∧ bs b = (Web.brk (· == 58) (bs s)).2.drop 1) ∧ a.size ≤ s.size ∧ b.size ≤ s.size ∧ Drawn0 w w' := by
  refine (cut_one s 58 w hs).mono ?_
  rintro e w1 ⟨rfl, d⟩
  have h := cut_brk (bs s) 58
  have hl := brk_len (· == 58) (bs s)
  have h1 : bs (⟨(Lib.cut s.data.toList [58]).1.toArray⟩ : ByteArray) = (Web.brk (· == 58) (bs s)).1 := h.1
  have h2 : bs (⟨(Lib.cut s.data.toList [58]).2.1.toArray⟩ : ByteArray) = (Web.brk (· == 58) (bs s)).2.drop 1 := h.2
  rw [bs_len] at hl
  refine ⟨_, _, _, rfl, Lib.hid ⟨h1, h2⟩, ?_, ?_, d⟩
  · rw [← bs_len, h1]; omega
  · rw [← bs_len, h2, List.length_drop]; omega
theorem lastIdx_at (s : ByteArray) : ∀ k : Nat, k ≤ s.size → Lib.lastIdx s 64 k = lastAt (bs s) k
  | 0, _ => rfl
  | k + 1, h => by
    have hk : k < s.size := by omega
    have e : s.data[k]! = s[k] := by
      have : k < s.data.size := hk
      rw [getElem!_pos s.data k this]
      rfl
    unfold Lib.lastIdx lastAt
    rw [e, bs_get s k hk, lastIdx_at s k (by omega)]
    by_cases c : s[k] = 64
    · rw [if_pos (by rw [c]; rfl), if_pos (by rw [c])]
    · rw [if_neg (by intro h; exact c ((u8_eq s[k] 64).1 h)), if_neg (by intro h; exact c (Option.some.inj h))]
theorem lastAt_c (s : ByteArray) (w : World) (hs : s.size ≤ 140737488351232) :
    Calls Tryz.prog 91 #[.string s, .int .u8 64] w fun e w' => ∃ n : Int, e = .returned (.int .i64 n) ∧ Hid (n = lastAt (bs s) s.size) ∧ -1 ≤ n ∧ n < s.size ∧ Drawn0 w w' := by
  refine (strings_LastIndexByte.calls s 64 _ w (by unfold strings_LastIndexByte.f; rw [if_pos hs])).mono ?_
  rintro e w1 ⟨rfl, d⟩
  have h := lastIdx_at s s.size (Nat.le_refl _)
  have h2 := lastAt_lt (bs s) s.size
  refine ⟨_, rfl, Lib.hid h, ?_, ?_, d⟩
  · show -1 ≤ Lib.lastIdx s 64 s.size
    omega
  · show Lib.lastIdx s 64 s.size < _
    omega
theorem pencode_c (s : ByteArray) (n : Int) (w : World) (hs : s.size ≤ 35184372088832) (h0 : 0 ≤ n) :
    Calls Tryz.prog 59 #[.string s, .int .i64 n] w fun e w' => ∃ r : ByteArray, e = .returned (.string r) ∧ Hid (bs r = Web.enc n.toNat (bs s)) ∧ r.size ≤ 3 * s.size ∧ Below w.heap.size w w' := by
  obtain ⟨m, rfl⟩ := Int.eq_ofNat_of_zero_le h0
  have h := percent_encode_eq (bs s) m ((bs s).length + 1) (by rw [bs_len]; omega) (by omega)
  refine (percent_Encode.calls _ s _ _ w h).mono fun e w' ⟨he, hd⟩ => ⟨_, he, Lib.hid rfl, ?_, hd⟩
  have := enc_len m (bs s)
  rw [bs_len] at this
  exact this
theorem hparse_c (s : ByteArray) (w : World) (hs : s.size < 4294967281) :
    Calls Tryz.prog 79 #[.string s] w fun e w' => e = .returned (.tuple #[.string (hostP (bs s)).1, .int .i64 (hostP (bs s)).2]) ∧ Below w.heap.size w w' := by
  have h := host_parse_eq (bs s) (by rw [bs_len]; omega) (2 * (bs s).length + 7) (by omega)
  exact host_Parse.calls _ s _ _ w h
def AuthIs (b : Bool) (w' : World) (g d : Nat) (s : List UInt8) (u : Web.U) : Prop :=
  (b = true ∧ ∃ (us ps h : List UInt8) (p : Int) (r : ByteArray), Web.auth d (Web.brk Web.ends s).1 = some (us, ps, h, p) ∧ bs r = (Web.brk Web.ends s).2 ∧ RB w' g r { u with user := us, pass := ps, host := h, port := p }) ∨
  (b = false ∧ Web.auth d (Web.brk Web.ends s).1 = none)
set_option maxRecDepth 100000 in
set_option maxHeartbeats 2000000 in
theorem authority_walk (g d : Nat) (s : ByteArray) (u : Web.U) (w : World) (hs : s.size ≤ 100000) (hd : (portP u.scheme).1 = (d : Int)) (hu : u.user = [] ∧ u.pass = []) (hr : RB w g s u) :
    Calls Tryz.prog 57 #[.pointer (some ⟨g, 0, none⟩)] w fun e w' => ∃ b : Bool, e = .returned (.bool b) ∧ Below g w w' ∧ Hid (AuthIs b w' g d (bs s) u) := by
  have HR := Lib.hid hr
  have HU := Lib.hid hu
  clear hr hu
  go_enter Tryz.func57, Tryz.ntmps57
  go_wp2_with fail
  refine (upTo_walk g s [47, 92, 63, 35] Web.ends isEnds u _ (by omega) HR.out).mono ?_
  rintro e w1 ⟨a, rb, rfl, HA, hb1, HR1⟩
  have HB1 := Lib.hid hb1
  clear HR hb1
  have ha : a.size ≤ s.size := by
    have := brk_len Web.ends (bs s)
    rw [← HA.out.1, bs_len, bs_len] at this
    omega
  go_wp2_with fail
  refine (lastAt_c a _ (by omega)).mono ?_
  rintro e w2 ⟨n, rfl, HN, hn1, hn2, d2⟩
  have HR2 := Lib.hid (HR1.out.below d2.below)
  have HB2 := Lib.hid (below_g HB1.out (Nat.le_of_lt HR1.out.lt) d2.below)
  clear HR1 HB1 d2
  have HI := Lib.hid (show a.size = (bs a).length by rw [bs_len])
  go_upto_if 19 with (fail)
  go_cut [3] (fun v3 wc => ∃ s1 : ByteArray, v3 = .string s1 ∧ Hid (bs s1 = (Web.userHost (bs a)).2) ∧ s1.size ≤ a.size ∧ Hid (RB wc g rb { u with user := (userEnc (Web.userHost (bs a)).1).1, pass := (userEnc (Web.userHost (bs a)).1).2 }) ∧ Hid (Below g w wc))
  case first =>
    by_cases c3 : 0 ≤ n
    · obtain ⟨k, rfl⟩ := Int.eq_ofNat_of_zero_le c3
      have c3' : decide (0 ≤ (k : Int)) = true := decide_eq_true (by omega)
      go_wp2_with fail
      have su : (a.extract 0 k).size ≤ a.size := by rw [ByteArray.size_extract]; omega
      have e1 : bs (a.extract 0 k) = (bs a).take k := bs_head a k
      generalize a.extract 0 k = usr at su e1 ⊢
      have E1 := Lib.hid e1
      clear e1
      refine (cut_c usr _ (by omega)).mono ?_
      rintro e w3 ⟨x, y, f, rfl, HC, hx, hy, d3⟩
      have HR3 := Lib.hid (HR2.out.below d3.below)
      have HB3 := Lib.hid (below_g HB2.out (Nat.le_of_lt HR2.out.lt) d3.below)
      clear HR2 HB2 d3
      go_wp2_with fail
      refine (pencode_c x 4 _ (by omega) (by decide)).mono ?_
      rintro e w4 ⟨ux, rfl, HX, hux, b4⟩
      have HR4 := Lib.hid (HR3.out.below b4)
      have HB4 := Lib.hid (below_g HB3.out (Nat.le_of_lt HR3.out.lt) b4)
      clear HR3 HB3 b4
      go_wp2_with fail
      refine (pencode_c y 4 _ (by omega) (by decide)).mono ?_
      rintro e w5 ⟨py, rfl, HY, hpy, b5⟩
      have HR5 := Lib.hid (HR4.out.below b5)
      have HB5 := Lib.hid (below_g HB4.out (Nat.le_of_lt HR4.out.lt) b5)
      clear HR4 HB4 b5
      have q2 := HR5.out.c2
      have f2 := HR5.out.f 2
      have HR6 := Lib.hid (show RB (w5.setCell ⟨g, 2, none⟩ (.string ux)) g rb { u with user := bs ux } from HR5.out.set2 (bs ux))
      have HB6 := Lib.hid (below_gset HB5.out 2 (.string ux))
      have q3 := HR6.out.c3
      have f3 := HR6.out.f 3
      have HR7 := Lib.hid (show RB ((w5.setCell ⟨g, 2, none⟩ (.string ux)).setCell ⟨g, 3, none⟩ (.string py)) g rb { u with user := bs ux, pass := bs py } from HR6.out.set3 (bs py))
      have HB7 := Lib.hid (below_gset HB6.out 3 (.string py))
      clear HR5 HB5 HR6 HB6
      go_wp2_with fail
      go_meet
      case rel =>
        have e := userHost_at (bs a) k (by rw [← HI.out, ← HN.out])
        refine ⟨_, rfl, Lib.hid ?_, ?_, Lib.hid ?_, HB7⟩
        · rw [e, bs_rest]
        · rw [ByteArray.size_extract]; omega
        · have h1 : (userEnc (Web.userHost (bs a)).1).1 = bs ux := by rw [e, HX.out, HC.out.1, E1.out]; rfl
          have h2 : (userEnc (Web.userHost (bs a)).1).2 = bs py := by rw [e, HY.out, HC.out.2, E1.out]; rfl
          rw [h1, h2]
          exact HR7.out
    · have c3' : decide (0 ≤ n) = false := decide_eq_false c3
      go_wp2_with fail
      go_meet
      case rel =>
        have e := userHost_no (bs a) (by rw [← HI.out, ← HN.out]; omega)
        refine ⟨a, rfl, Lib.hid (by rw [e]), Nat.le_refl _, Lib.hid ?_, HB2⟩
        rw [e]
        have := HR2.out
        have hu := HU.out
        show RB w2 g rb ⟨u.scheme, [], [], u.host, u.port, u.path, u.hasQ, u.query, u.hasF, u.frag⟩
        rw [← hu.1]
        conv => arg 4; arg 3; rw [hu.1, ← hu.2]
        exact this
  case rest =>
    obtain ⟨s1, rfl, HS, hs1, HR3, HB3⟩ := hcut
    clear HR2 HB2 HN hn1 hn2
    go_wp2_with fail
    refine (cut_c s1 _ (by omega)).mono ?_
    rintro e w3 ⟨x, y, f, rfl, HC, hx, hy, d3⟩
    have HR4 := Lib.hid (HR3.out.below d3.below)
    have HB4 := Lib.hid (below_g HB3.out (Nat.le_of_lt HR3.out.lt) d3.below)
    clear HR3 HB3 d3
    go_wp2_with fail
    refine (hparse_c x _ (by omega)).mono ?_
    rintro e w4 ⟨rfl, b4⟩
    have HR5 := Lib.hid (HR4.out.below b4)
    have HB5 := Lib.hid (below_g HB4.out (Nat.le_of_lt HR4.out.lt) b4)
    clear HR4 HB4 b4
    have q4 := HR5.out.c4
    have f4 := HR5.out.f 4
    rcases hh : Web.host (bs x) with _ | hx2
    · have e1 : hostP (bs x) = (⟨#[]⟩, 8) := by unfold hostP; rw [hh]
      rw [e1]
      have NO := Lib.hid (show Web.auth d (Web.brk Web.ends (bs s)).1 = none by
        rw [auth_def, ← HA.out.1, ← HS.out, ← HC.out.1, hh])
      clear hh e1
      go_wp2_with fail
      go_ret
      first
        | exact ⟨false, rfl, below_gset HB5.out _ _, Lib.hid (.inr ⟨rfl, NO.out⟩)⟩
        | exact .inl ⟨rfl, below_gset HB5.out _ _, Lib.hid (.inr ⟨rfl, NO.out⟩)⟩
    · have e1 : hostP (bs x) = (ba hx2, 0) := by unfold hostP; rw [hh]
      rw [e1]
      have HH := Lib.hid hh
      have HR6 := Lib.hid (HR5.out.set4 hx2)
      have HB6 := Lib.hid (below_gset HB5.out 4 (.string (ba hx2)))
      clear hh e1 HR5 HB5
      go_wp2_with fail
      refine (port_walk g d rb y _ _ (by omega) (by exact hd) HR6.out).mono ?_
      rintro e w5 ⟨b, rfl, b5, HP⟩
      have HB7 := Lib.hid (HB6.out.trans b5)
      clear HB6 HR6 b5
      rcases HP.out with ⟨rfl, p, hp, hr⟩ | ⟨rfl, hp⟩
      · have OK := Lib.hid (show AuthIs true w5 g d (bs s) u from .inl ⟨rfl, _, _, hx2, p, rb, by rw [auth_def, ← HA.out.1, ← HS.out, ← HC.out.1, ← HC.out.2, HH.out, hp], HA.out.2, hr⟩)
        clear hr hp HP
        go_wp2_with fail
        go_ret
        first | exact ⟨true, rfl, HB7.out, OK⟩ | exact .inr ⟨rfl, HB7.out, OK⟩
      · have NO := Lib.hid (show AuthIs false w5 g d (bs s) u from .inr ⟨rfl, by rw [auth_def, ← HA.out.1, ← HS.out, ← HC.out.1, ← HC.out.2, HH.out, hp]⟩)
        clear hp HP
        go_wp2_with fail
        go_ret
        first | exact ⟨false, rfl, HB7.out, NO⟩ | exact .inl ⟨rfl, HB7.out, NO⟩
end Go.Proofs.YtcmcopieagpppaaGreatDoor.P
namespace Go.Proofs.YtcmcopieagpppaaGreatDoor.P
open Go.RowKit Go.Proofs.YtcmcopieagpppaaGreatDoorW.PrintWords Go.Proofs.YtcmcopieagpppaaGreatDoorW.PrintLast Go.Proofs.YtcmcopieagpppaaGreatDoorW.PrintMore
set_option linter.unusedVariables false
set_option linter.unusedSimpArgs false
def rep : List UInt8 → List UInt8
  | [] => []
  | c :: t => if (c :: t).take 3 = [37, 50, 101] then 46 :: rep (t.drop 2) else c :: rep t
  termination_by l => l.length
  decreasing_by all_goals (simp only [List.length_cons, List.length_drop]; omega)
theorem rep_nil : rep [] = [] := by rw [rep]
theorem rep_hit (t : List UInt8) : rep (37 :: 50 :: 101 :: t) = 46 :: rep t := by rw [rep, if_pos (by rfl)]; rfl
theorem rep_miss (c : UInt8) (t : List UInt8) (h : (c :: t).take 3 ≠ [37, 50, 101]) : rep (c :: t) = c :: rep t := by rw [rep, if_neg h]
theorem occ_take (s : List UInt8) (h : Lib.occAt s [37, 50, 101] 0 = false) : s.take 3 ≠ [37, 50, 101] := by
  intro e
  unfold Lib.occAt at h
  rw [List.drop_zero] at h
  have : [37, 50, 101] <+: s := ⟨s.drop 3, by rw [← e, List.take_append_drop]⟩
  rw [List.isPrefixOf_iff_prefix.2 this] at h
  cases h
theorem rep_pre : ∀ (i : Nat) (s : List UInt8), (∀ j, j < i → Lib.occAt s [37, 50, 101] j = false) → i ≤ s.length → rep s = s.take i ++ rep (s.drop i)
  | 0, s, _, _ => rfl
  | i + 1, [], _, h => by simp at h
  | i + 1, c :: t, ho, h => by
    rw [rep_miss c t (occ_take _ (ho 0 (by omega))), rep_pre i t (fun j hj => ho (j + 1) (by omega)) (by simpa using h)]
    rfl
theorem replaceK_rep : ∀ (n : Nat) (s : List UInt8), s.length ≤ n → Lib.replaceK [37, 50, 101] [46] (Lib.count s [37, 50, 101]) s = rep s := by
  intro n
  induction n with
  | zero =>
    intro s h
    obtain rfl : s = [] := List.length_eq_zero_iff.1 (by omega)
    rw [rep_nil]
    rfl
  | succ n ih =>
    intro s h
    rcases Lib.index_spec s [37, 50, 101] with ⟨h1, h2⟩ | ⟨i, h1, h2, h3, h4⟩
    · rw [Lib.count_miss h1]
      have := rep_pre s.length s (fun j hj => h2 j (by omega)) (Nat.le_refl _)
      rw [List.take_length, List.drop_length, rep_nil, List.append_nil] at this
      exact this.symm
    · have hc := Lib.count_hit (by simp) h1
      rw [hc, Nat.add_comm, Lib.replaceK_hit _ _ _ _ i h1, rep_pre i s h4 h2]
      have hp : s.drop i = 37 :: 50 :: 101 :: s.drop (i + 3) := by
        unfold Lib.occAt at h3
        obtain ⟨r, hr⟩ := List.isPrefixOf_iff_prefix.1 h3
        have : s.drop (i + 3) = r := by rw [← List.drop_drop, ← hr]; rfl
        rw [this, ← hr]
        rfl
      rw [hp, rep_hit]
      have hl : (s.drop (i + 3)).length ≤ n := by rw [List.length_drop]; omega
      have := ih _ hl
      show s.take i ++ [46] ++ Lib.replaceK [37, 50, 101] [46] (Lib.count (s.drop (i + 3)) [37, 50, 101]) (s.drop (i + 3)) = _
      rw [this]
      simp
theorem replaceAll_rep (s : List UInt8) : Lib.replaceAll s [37, 50, 101] [46] = rep s := by
  have := replaceK_rep s.length s (Nat.le_refl _)
  unfold Lib.replaceAll Lib.replace Lib.replaceNum
  rw [if_neg (by decide), if_pos (.inl (by decide))]
  exact this
theorem rep_empty (s : List UInt8) : rep s = [] ↔ s = [] := by
  constructor
  · intro h
    cases s with
    | nil => rfl
    | cons c t =>
      rw [rep] at h
      split at h <;> cases h
  · rintro rfl; exact rep_nil
theorem rep_dot (s t : List UInt8) : rep s = 46 :: t ↔ (∃ r, (s = 46 :: r ∨ s = 37 :: 50 :: 101 :: r) ∧ rep r = t) := by
  constructor
  · intro h
    cases s with
    | nil => rw [rep_nil] at h; cases h
    | cons c s =>
      rw [rep] at h
      split at h
      · rename_i e
        refine ⟨s.drop 2, .inr ?_, (List.cons.inj h).2⟩
        have : c :: s = (c :: s).take 3 ++ (c :: s).drop 3 := (List.take_append_drop 3 _).symm
        rw [e] at this
        exact this
      · obtain ⟨rfl, h2⟩ := List.cons.inj h
        exact ⟨s, .inl rfl, h2⟩
  · rintro ⟨r, rfl | rfl, rfl⟩
    · rw [rep_miss _ _ (by simp)]
    · rw [rep_hit]
theorem dots_rep (s : List UInt8) : Web.dots s = if rep (Web.lowerL s) = [46] ∨ rep (Web.lowerL s) = [46, 46] then (rep (Web.lowerL s)).length else 0 := by
  unfold Web.dots
  dsimp only
  generalize Web.lowerL s = t
  have h1 : rep t = [46] ↔ (t = [46] ∨ t = [37, 50, 101]) := by
    rw [rep_dot]
    constructor
    · rintro ⟨r, h, hr⟩
      rw [rep_empty] at hr
      subst hr
      exact h
    · rintro (rfl | rfl)
      · exact ⟨[], .inl rfl, rep_nil⟩
      · exact ⟨[], .inr rfl, rep_nil⟩
  have h2 : rep t = [46, 46] ↔ (t = [46, 46] ∨ t = [46, 37, 50, 101] ∨ t = [37, 50, 101, 46] ∨ t = [37, 50, 101, 37, 50, 101]) := by
    rw [rep_dot]
    constructor
    · rintro ⟨r, h, hr⟩
      rw [rep_dot] at hr
      obtain ⟨r2, h2, hr2⟩ := hr
      rw [rep_empty] at hr2
      subst hr2
      rcases h with rfl | rfl <;> rcases h2 with rfl | rfl <;> simp
    · have e1 : rep [46] = [46] := by rw [rep_dot]; exact ⟨[], .inl rfl, rep_nil⟩
      have e2 : rep [37, 50, 101] = [46] := by rw [rep_dot]; exact ⟨[], .inr rfl, rep_nil⟩
      rintro (rfl | rfl | rfl | rfl)
      · exact ⟨[46], .inl rfl, e1⟩
      · exact ⟨[37, 50, 101], .inl rfl, e2⟩
      · exact ⟨[46], .inr rfl, e1⟩
      · exact ⟨[37, 50, 101], .inr rfl, e2⟩
  by_cases a : rep t = [46]
  · rw [if_pos (h1.1 a), if_pos (.inl a), a]
    rfl
  · rw [if_neg (fun h => a (h1.2 h))]
    by_cases b : rep t = [46, 46]
    · rw [if_pos (h2.1 b), if_pos (.inr b), b]
      rfl
    · rw [if_neg (fun h => b (h2.2 h)), if_neg (by rintro (h | h); exact a h; exact b h)]
set_option maxRecDepth 100000 in
set_option maxHeartbeats 2000000 in
theorem dots_walk (s : ByteArray) (w : World) (hs : s.size ≤ 100000) (he : ∃ m, w.cell? ⟨2, 0, none⟩ = some (.int .i64 m)) (hz : 3 ≤ w.heap.size) :
    Calls Tryz.prog 93 #[.string s] w fun e w' => e = .returned (.int .i64 (Web.dots (bs s) : Nat)) ∧ Below w.heap.size w w' := by
  go_enter Tryz.func93, Tryz.ntmps93
  go_wp2_with fail
  refine (lower_c s _ (by omega)).mono ?_
  rintro e w1 ⟨t, rfl, HT, ht, b1⟩
  go_wp2_with fail
  obtain ⟨m, hm⟩ := he
  have hm1 : w1.cell? ⟨2, 0, none⟩ = some (.int .i64 m) := (b1.cell (p := ⟨2, 0, none⟩) (by show 2 < _; omega)).trans hm
  have hcnt := Lib.countB_le (ba [37, 50, 101]) (by decide) t.size t (Nat.le_refl _)
  refine (Tryz.strings_ReplaceAll t (ba [37, 50, 101]) (ba [46]) m _ (by omega) hm1 (by decide) (by rw [show (ba [46]).size = 1 from rfl]; omega)).mono ?_
  rintro e w2 ⟨rfl, b2⟩
  have B2 := Lib.hid (below_step b1 b2)
  have hx : bs (⟨(Lib.replaceAll t.data.toList (ba [37, 50, 101]).data.toList (ba [46]).data.toList).toArray⟩ : ByteArray) = rep (Web.lowerL (bs s)) := by
    rw [← HT.out]
    exact replaceAll_rep (bs t)
  generalize (⟨(Lib.replaceAll t.data.toList (ba [37, 50, 101]).data.toList (ba [46]).data.toList).toArray⟩ : ByteArray) = x at hx ⊢
  clear hm hm1 hcnt b1 b2
  have hlen := bs_len x
  by_cases h1 : bs x = [46]
  · have h1' : (x.toList == [46]) = true := by rw [bs_toList, h1]; rfl
    have RES := Lib.hid (show ((Web.dots (bs s) : Nat) : Int) = (x.size : Int) by rw [dots_rep, ← hx, if_pos (.inl h1), bs_len])
    clear h1 hx hlen
    go_wp2_with fail
    go_ret
    exact ⟨by rw [RES.out]; rfl, B2.out⟩
  · have h1' : (x.toList == [46]) = false := by rw [bs_toList, beq_eq_false_iff_ne]; exact h1
    by_cases h2 : bs x = [46, 46]
    · have h2' : (x.toList == [46, 46]) = true := by rw [bs_toList, h2]; rfl
      have RES := Lib.hid (show ((Web.dots (bs s) : Nat) : Int) = (x.size : Int) by rw [dots_rep, ← hx, if_pos (.inr h2), bs_len])
      clear h1 h2 hx hlen
      go_wp2_with fail
      go_ret
      exact ⟨by rw [RES.out]; rfl, B2.out⟩
    · have h2' : (x.toList == [46, 46]) = false := by rw [bs_toList, beq_eq_false_iff_ne]; exact h2
      have RES := Lib.hid (show ((Web.dots (bs s) : Nat) : Int) = 0 by rw [dots_rep, ← hx, if_neg (by rintro (h | h); exact h1 h; exact h2 h)]; rfl)
      clear h1 h2 hx hlen
      go_wp2_with fail
      go_ret
      exact ⟨by rw [RES.out]; rfl, B2.out⟩
end Go.Proofs.YtcmcopieagpppaaGreatDoor.P
namespace Go.Proofs.YtcmcopieagpppaaGreatDoor.P
open Go.RowKit Go.Proofs.YtcmcopieagpppaaGreatDoorW.PrintWords Go.Proofs.YtcmcopieagpppaaGreatDoorW.PrintLast Go.Proofs.YtcmcopieagpppaaGreatDoorW.PrintMore
set_option linter.unusedVariables false
set_option linter.unusedSimpArgs false
def qf (c : UInt8) : Bool := c == 63 || c == 35
theorem ends_qf (c : UInt8) : Web.ends c = (Web.slash c || qf c) := by
  unfold Web.ends Web.slash qf
  rw [Bool.or_assoc]
theorem brk_ends : ∀ Y : List UInt8, Web.brk qf Y = ((Web.brk Web.ends Y).1 ++ (Web.brk qf (Web.brk Web.ends Y).2).1, (Web.brk qf (Web.brk Web.ends Y).2).2)
  | [] => rfl
  | c :: t => by
    rw [brk_cons Web.ends]
    by_cases h : Web.ends c = true
    · rw [if_pos h]; rfl
    · rw [if_neg h, brk_cons qf, if_neg (by intro h2; apply h; rw [ends_qf, h2, Bool.or_true])]
      have ih := brk_ends t
      show (c :: (Web.brk qf t).1, (Web.brk qf t).2) = _
      rw [ih]
      rfl
def HeadEnds (R : List UInt8) : Prop := ∀ c r, R = c :: r → Web.ends c = true
theorem headEnds_brk (Y : List UInt8) : HeadEnds (Web.brk Web.ends Y).2 := fun c r h => brk_snd_head Web.ends Y c r h
theorem brk_fst_all (q : UInt8 → Bool) (l : List UInt8) : ∀ x ∈ (Web.brk q l).1, q x = false := by
  intro x hx
  have := takeWhile_all (fun c => !q c) l x hx
  simpa using this
theorem slash_of {R : List UInt8} (h : HeadEnds R) {c : UInt8} {z : List UInt8} (e : (Web.brk qf R).1 = c :: z) : Web.slash c = true := by
  cases R with
  | nil => cases e
  | cons a t =>
    have ha := h a t rfl
    rw [brk_cons] at e
    by_cases q : qf a = true
    · rw [if_pos q] at e; cases e
    · rw [if_neg q] at e
      obtain ⟨rfl, _⟩ := List.cons.inj e
      rw [ends_qf, Bool.eq_false_iff.2 q, Bool.or_false] at ha
      exact ha
def PJ (R0 : List UInt8) (L : List (List UInt8)) (R : List UInt8) : Prop :=
  (Web.brk qf R).2 = (Web.brk qf R0).2 ∧ HeadEnds R ∧
  (((Web.brk qf R).1 = [] ∧ L = Web.segsOf (Web.brk qf R0).1) ∨ ((Web.brk qf R).1 ≠ [] ∧ Web.segs L (Web.splitBy Web.slash (Web.brk qf R).1).tail = Web.segsOf (Web.brk qf R0).1))
theorem PJ_start {R0 : List UInt8} (h : HeadEnds R0) : PJ R0 [] R0 := by
  refine ⟨rfl, h, ?_⟩
  by_cases e : (Web.brk qf R0).1 = []
  · exact .inl ⟨e, by rw [e]; rfl⟩
  · exact .inr ⟨e, by unfold Web.segsOf; rw [if_neg e]⟩
theorem PJ_step {R0 : List UInt8} {L : List (List UInt8)} {c : UInt8} {Y : List UInt8} (h : PJ R0 L (c :: Y)) (hc : Web.slash c = true) :
    PJ R0 (Web.seg L (Web.brk Web.ends Y).1 (decide ((Web.brk qf (Web.brk Web.ends Y).2).1 = []))) (Web.brk Web.ends Y).2 := by
  obtain ⟨h1, h2, h3⟩ := h
  have hq : ¬ qf c = true := by
    unfold Web.slash at hc
    unfold qf
    rcases (Bool.or_eq_true _ _ ▸ hc : _ ∨ _) with e | e <;> rw [beq_iff_eq.1 e] <;> decide
  rw [brk_cons, if_neg hq] at h1 h3
  have hb := brk_ends Y
  have hY1 : (Web.brk qf Y).1 = (Web.brk Web.ends Y).1 ++ (Web.brk qf (Web.brk Web.ends Y).2).1 := by rw [hb]
  have hY2 : (Web.brk qf Y).2 = (Web.brk qf (Web.brk Web.ends Y).2).2 := by rw [hb]
  have hseg : ∀ x ∈ (Web.brk Web.ends Y).1, Web.slash x = false := by
    intro x hx
    have := brk_fst_all Web.ends Y x hx
    rw [ends_qf] at this
    exact (Bool.or_eq_false_iff.1 this).1
  have he := headEnds_brk Y
  refine ⟨by rw [← hY2]; exact h1, he, ?_⟩
  rcases h3 with ⟨h3, _⟩ | ⟨_, h3⟩
  · cases h3
  · have ht : (Web.splitBy Web.slash (c :: (Web.brk qf Y).1)).tail = Web.splitBy Web.slash (Web.brk qf Y).1 := by
      rw [Web.splitBy, hc]; rfl
    dsimp only at h3
    rw [ht, hY1] at h3
    rw [← h3]
    generalize (Web.brk Web.ends Y).1 = seg at hseg ⊢
    cases hp : (Web.brk qf (Web.brk Web.ends Y).2).1 with
    | nil =>
      refine .inl ⟨rfl, ?_⟩
      rw [List.append_nil, splitBy_one _ _ hseg, segs_one, decide_eq_true rfl]
    | cons c' z =>
      refine .inr ⟨by simp, ?_⟩
      have hs := slash_of he hp
      rw [splitBy_more _ _ _ hs _ hseg, segs_more _ _ _ (splitBy_ne _ _), decide_eq_false (by simp), Web.splitBy, hs]
      rfl
theorem PJ_end {R0 : List UInt8} {L : List (List UInt8)} {R : List UInt8} (h : PJ R0 L R) (hn : ∀ c r, R = c :: r → Web.slash c = false) : L = Web.segsOf (Web.brk qf R0).1 ∧ R = (Web.brk qf R0).2 := by
  obtain ⟨h1, h2, h3⟩ := h
  have e : Web.brk qf R = ([], R) := by
    cases R with
    | nil => rfl
    | cons c t =>
      have a := h2 c t rfl
      rw [ends_qf, hn c t rfl, Bool.false_or] at a
      rw [brk_cons, if_pos a]
  rw [e] at h1 h3
  rcases h3 with ⟨_, h3⟩ | ⟨h3, _⟩
  · exact ⟨h3, h1⟩
  · exact absurd rfl h3
theorem join_segs (L : List (List UInt8)) : 47 :: Lib.join L [47] = Web.joinSegs L := by
  unfold Web.joinSegs
  cases L with
  | nil => rfl
  | cons x r =>
    rw [if_neg (by simp), Lib.join_cons, List.flatMap_cons, List.cons_append]
    congr 1
theorem lens_le (n : Nat) : ∀ L : List (List UInt8), (∀ x ∈ L, x.length ≤ n) → Lib.lens L ≤ n * L.length
  | [], _ => by simp [Lib.lens]
  | x :: r, h => by
    have := lens_le n r (fun y hy => h y (by simp [hy]))
    have hx := h x (by simp)
    have e : Lib.lens (x :: r) = x.length + Lib.lens r := by simp [Lib.lens]
    rw [e, List.length_cons, Nat.mul_add]
    omega
theorem join_c (base : Nat) (ok : Nat → Prop) (A : Option Addr) (cp : Nat) (L : List (List UInt8)) (w : World) (h : Kd.R Kd.string 9 w base ok (.slice A L.length cp) (L.map ba)) (hS : ∀ y ∈ L, y.length ≤ 300000) (hL : L.length ≤ 100000) :
    Calls Tryz.prog 94 #[.slice A L.length cp, .string ⟨#[47]⟩] w fun e w' => ∃ r : ByteArray, e = .returned (.string r) ∧ Hid (bs r = Lib.join L [47]) ∧ r.size ≤ 40000000000 ∧ Below w.heap.size w w' := by
  have hcap : L.length ≤ cp := (Kd.R_reads' h).2.1
  cases L with
  | nil =>
    refine (Tryz.strings_Join_none A cp ⟨#[47]⟩ w).mono ?_
    rintro e w1 ⟨rfl, rfl⟩
    exact ⟨_, rfl, Lib.hid rfl, by decide, Below.refl _ _⟩
  | cons x r =>
    have hlen := Lib.join_length x r [47]
    have hle := lens_le 300000 (x :: r) hS
    simp only [List.length_cons, List.length_nil] at hlen hle hL
    obtain ⟨b, hb⟩ : ∃ b, A = some ⟨b, 0, none⟩ := by
      obtain ⟨_, inner, ho, _⟩ := h
      rcases ho.2 with ⟨hv, _⟩ | ⟨g, cap', cur, hv, _⟩
      · injection hv with _ hv _
        simp at hv
      · injection hv with ha _ _
        exact ⟨g, ha⟩
    subst hb
    have hC := (Kd.R_reads' h).2.2
    have hlt : b < w.heap.size := Kd.C_lt hC (by simp) (by decide)
    have hcells : ∀ (j : Nat) y, ((x :: r).map ba)[j]? = some y → w.cell? ⟨b, 0 + j, none⟩ = some (.string y) := by
      intro j y hj
      have hjl : j < ((x :: r).map ba).length := (List.getElem?_eq_some_iff.1 hj).1
      obtain ⟨ad, e0, hx⟩ := Kd.at_string hC (j : Int) (by omega) (by exact_mod_cast hjl)
      cases e0
      rw [List.length_map] at hjl
      have e1 := rdOf_ba (x :: r) j hjl
      rw [e1, Int.toNat_natCast] at hx
      rw [List.getElem?_map, List.getElem?_eq_getElem hjl] at hj
      obtain rfl := Option.some.inj hj
      rw [show (⟨b, 0 + j, none⟩ : Addr) = (⟨b, 0, none⟩ : Addr).add j from by simp [Addr.add]]
      exact hx
    have hj := Tryz.strings_Join b 0 cp ((x :: r).map ba) ⟨#[47]⟩ w hcells hlt (by rw [List.length_map, List.length_cons]; omega) (by rw [List.length_map]; exact hcap) (by
      rw [List.map_map]
      have e2 : (x :: r).map ((fun y : ByteArray => y.data.toList) ∘ ba) = x :: r := by
        have : ((fun y : ByteArray => y.data.toList) ∘ ba) = id := rfl
        rw [this, List.map_id]
      rw [e2]
      show (Lib.join (x :: r) [47]).length ≤ _
      omega)
    rw [List.length_map] at hj
    refine hj.mono ?_
    rintro e w1 ⟨rfl, hb⟩
    refine ⟨_, rfl, Lib.hid ?_, ?_, hb⟩
    · show Lib.join (((x :: r).map ba).map (·.data.toList)) [47] = _
      rw [List.map_map]
      have : ((fun y : ByteArray => y.data.toList) ∘ ba) = id := rfl
      rw [this, List.map_id]
    · show (Lib.join (((x :: r).map ba).map (·.data.toList)) [47]).length ≤ _
      rw [List.map_map]
      have : ((fun y : ByteArray => y.data.toList) ∘ ba) = id := rfl
      rw [this, List.map_id]
      omega
theorem isSlash2 (c : UInt8) : [47, 92].contains c = Web.slash c := by
  unfold Web.slash
  simp only [List.contains_cons, List.contains_nil, Bool.or_false]
set_option maxRecDepth 100000 in
set_option maxHeartbeats 2000000 in
theorem path_walk (g : Nat) (s : ByteArray) (u : Web.U) (w : World) (hs : s.size ≤ 65536) (hr : RB w g s u) (hg : 3 ≤ g) (he : ∃ m, w.cell? ⟨2, 0, none⟩ = some (.int .i64 m)) (hh : HeadEnds (bs s)) :
    Calls Tryz.prog 58 #[.pointer (some ⟨g, 0, none⟩)] w fun e w' => (∃ v, e = .returned v) ∧ Below g w w' ∧ ∃ r : ByteArray, Hid (bs r = (Web.brk qf (bs s)).2 ∧ RB w' g r { u with path := Web.path (Web.brk qf (bs s)).1 }) := by
  have HR := Lib.hid hr
  have HH := Lib.hid hh
  obtain ⟨mx, he⟩ := he
  have HE := Lib.hid he
  clear hr hh he
  go_enter Tryz.func58, Tryz.ntmps58
  go_wp2_with fail
  go_loopw [2] (fun v2 wr => ∃ (L : List (List UInt8)) (x : ByteArray), Hid (Kd.R Kd.string 9 wr g (fun k => k ≠ g) v2 (L.map ba)) ∧ Hid (PJ (bs s) L (bs x)) ∧ L.length + x.size ≤ s.size ∧ Hid (∀ y ∈ L, y.length ≤ 300000) ∧ Hid (RB wr g x u) ∧ Hid (Below g w wr)) (fun _ wr => match wr.cell? ⟨g, 0, none⟩ with | some (.string x) => x.size | _ => 0)
  case atStart => exact ⟨[], s, Lib.hid (Kd.R_nil _ _ _ _ _), Lib.hid (PJ_start HH.out), by simp, Lib.hid (by simp), HR, Lib.hid (Below.refl _ _)⟩
  case round =>
    obtain ⟨L, x, HL, HP, hx, HS, HR1, HB1⟩ := hrel
    go_wp2_with fail
    refine (pass_keep g x [47, 92] Web.slash isSlash2 u _ (by omega) HR1.out).mono ?_
    rintro e w1 ⟨b, rfl, b1, HQ, k1⟩
    have HB2 := Lib.hid (HB1.out.trans b1)
    have HL2 := Lib.hid (Kd.R_keep HL.out k1 (fun _ h => h))
    clear HB1 HL b1 k1
    rcases HQ.out with ⟨rfl, c, r, hc, hq, hr⟩ | ⟨rfl, hc, hr⟩
    · have HC := Lib.hid hc
      have HQc := Lib.hid hq
      have HR2 := Lib.hid hr
      have hxr : r.size + 1 = x.size := by
        have := congrArg List.length hc
        rw [bs_len, List.length_cons, bs_len] at this
        omega
      have MX := Lib.hid (HR1.out.c0)
      clear hc hq hr HQ HR1
      go_wp2_with fail
      refine (upTo_keep g r [47, 92, 63, 35] Web.ends isEnds u _ (by omega) HR2.out).mono ?_
      rintro e w2 ⟨p, x2, rfl, HA, b2, HR3, k2⟩
      have HB3 := Lib.hid (HB2.out.trans b2)
      have HL3 := Lib.hid (Kd.R_keep HL2.out k2 (fun _ h => h))
      have hpx : p.size + x2.size = r.size := by
        have := brk_len Web.ends (bs r)
        rw [← HA.out.1, ← HA.out.2, bs_len, bs_len, bs_len] at this
        exact this
      clear HB2 HL2 HR2 b2 k2
      go_upto_region 3 with (fail)
      go_cut [4] (fun v4 wc => v4 = .bool (decide ((Web.brk qf (bs x2)).1 = [])) ∧ wc = w2)
      case first =>
        have c0 := HR3.out.c0
        by_cases z : 0 < x2.size
        · have ze : x2.toList.isEmpty = false := by rw [bs_toList, List.isEmpty_eq_false_iff]; intro h; have := congrArg List.length h; rw [bs_len] at this; simp only [List.length_nil] at this; omega
          have hco := bs_cons x2 z
          by_cases q1 : x2[0] = 63
          · have e3 : ((x2[0].toNat : Int)) = 63 := by rw [q1]; rfl
            have RES := Lib.hid (show decide ((Web.brk qf (bs x2)).1 = []) = true by rw [hco, brk_cons, if_pos (by rw [q1]; rfl)]; rfl)
            clear hco q1
            go_wp2_with fail
            go_meet
            case rel => exact ⟨by rw [RES.out], rfl⟩
          · have e3 : (((x2[0].toNat : Int)) == 63) = false := by rw [beq_eq_false_iff_ne]; intro h; exact q1 ((u8_eq x2[0] 63).1 h)
            by_cases q2 : x2[0] = 35
            · have e4 : ((x2[0].toNat : Int)) = 35 := by rw [q2]; rfl
              have RES := Lib.hid (show decide ((Web.brk qf (bs x2)).1 = []) = true by rw [hco, brk_cons, if_pos (by rw [q2]; rfl)]; rfl)
              clear hco q1 q2
              go_wp2_with fail
              go_meet
              case rel => exact ⟨by rw [RES.out], rfl⟩
            · have e4 : (((x2[0].toNat : Int)) == 35) = false := by rw [beq_eq_false_iff_ne]; intro h; exact q2 ((u8_eq x2[0] 35).1 h)
              have RES := Lib.hid (show decide ((Web.brk qf (bs x2)).1 = []) = false by
                have e5 : ¬ qf x2[0] = true := by unfold qf; rw [beq_eq_false_iff_ne.2 q1, beq_eq_false_iff_ne.2 q2]; decide
                rw [hco, brk_cons, if_neg e5]; rfl)
              clear hco q1 q2
              go_wp2_with fail
              go_meet
              case rel => exact ⟨by rw [RES.out], rfl⟩
        · have ze : x2.toList.isEmpty = true := by rw [bs_toList, List.isEmpty_iff]; exact List.length_eq_zero_iff.1 (by rw [bs_len]; omega)
          have RES := Lib.hid (show decide ((Web.brk qf (bs x2)).1 = []) = true by
            have : bs x2 = [] := List.length_eq_zero_iff.1 (by rw [bs_len]; omega)
            rw [this]; rfl)
          go_wp2_with fail
          go_meet
          case rel => exact ⟨by rw [RES.out], rfl⟩
      case rest =>
        obtain ⟨rfl, rfl⟩ := hcut
        obtain ⟨last, hlast⟩ : ∃ b, b = decide ((Web.brk qf (bs x2)).1 = []) := ⟨_, rfl⟩
        rw [← hlast]
        have HNX := Lib.hid (show PJ (bs s) (Web.seg L (bs p) last) (bs x2) by
          rw [hlast, HA.out.1, HA.out.2]
          exact PJ_step (by rw [← HC.out]; exact HP.out) HQc.out)
        have HLD := Lib.hid (afterDots_len L (bs p))
        have HSD := Lib.hid (afterDots_all (P := fun x => x.length ≤ 300000) L (bs p) HS.out)
        clear HA HC HQc HP hlast
        go_wp2_with fail
        refine (dots_walk p _ (by omega) ⟨mx, (HB3.out.cell (p := ⟨2, 0, none⟩) (by show 2 < g; omega)).trans HE.out⟩ (by have := HR3.out.lt; omega)).mono ?_
        rintro e w3 ⟨rfl, b3⟩
        have HR4 := Lib.hid (HR3.out.below b3)
        have HB4 := Lib.hid (below_g HB3.out (Nat.le_of_lt HR3.out.lt) b3)
        have HL4 := Lib.hid (Kd.R_below HL3.out b3)
        clear HR3 HB3 HL3 b3
        go_upto_region 5 with (fail)
        obtain ⟨A, cp, rfl⟩ := Kd.R_slice HL4.out
        rw [List.length_map] at HL4
        go_cut [46] (fun v46 wc' => ∃ b : Bool, v46 = .bool b ∧ wc' = w3 ∧ Hid (DotB b L (bs p)))
        case first =>
          by_cases d2 : Web.dots (bs p) = 2
          · have d2' : (((Web.dots (bs p) : Nat) : Int) == 2) = true := beq_iff_eq.2 (by omega)
            by_cases l0 : L = []
            · subst l0
              go_wp2_with fail
              go_meet
              case rel => exact ⟨false, rfl, rfl, Lib.hid (.inr ⟨rfl, by unfold afterDots; split <;> rfl⟩)⟩
            · have l1 : decide (0 < ((L.length : Nat) : Int)) = true := decide_eq_true (by have := List.length_pos_iff.2 l0; omega)
              have l2 : decide (0 < L.length) = true := decide_eq_true (List.length_pos_iff.2 l0)
              go_wp2_with fail
              go_meet
              case rel => exact ⟨true, rfl, rfl, Lib.hid (.inl ⟨rfl, l0, d2⟩)⟩
          · have d2' : (((Web.dots (bs p) : Nat) : Int) == 2) = false := beq_eq_false_iff_ne.2 (by omega)
            go_wp2_with fail
            go_meet
            case rel => exact ⟨false, rfl, rfl, Lib.hid (.inr ⟨rfl, by unfold afterDots; rw [if_neg d2]⟩)⟩
        case rest =>
          obtain ⟨b, rfl, rfl, hb53⟩ := hcut
          go_upto_if 46 with (fail)
          go_cut [2] (fun v3 wc' => wc' = wc ∧ Hid (Kd.R Kd.string 9 wc' g (fun k => k ≠ g) v3 ((afterDots L (bs p)).map ba)))
          case first =>
            cases b with
            | true =>
              have ⟨l0, d2⟩ : L ≠ [] ∧ Web.dots (bs p) = 2 := by rcases hb53.out with ⟨_, h⟩ | ⟨h, _⟩; exact h; cases h
              have lp := List.length_pos_iff.2 l0
              have hlc : L.length ≤ cp := by have := (Kd.R_reads' HL4.out).2.1; exact this
              have hlc' : ((L.length : Nat) : Int) - 1 ≤ (cp : Int) := by omega
              go_wp2_with fail
              go_meet
              case rel =>
                refine ⟨rfl, Lib.hid ?_⟩
                have := Kd.R_take (m := L.length - 1) HL4.out (by rw [List.length_map]; omega)
                rw [← List.map_take, ← List.dropLast_eq_take] at this
                unfold afterDots
                rw [if_pos d2]
                exact this
            | false =>
              have hb : L = afterDots L (bs p) := by rcases hb53.out with ⟨h, _⟩ | ⟨_, h⟩; cases h; exact h
              have HEQ := Lib.hid hb
              clear hb
              go_wp2_with fail
              go_meet
              case rel => exact ⟨rfl, Lib.hid (by rw [← HEQ.out]; have := HL4.out; rw [← List.length_map (f := ba)] at this; exact this)⟩
          case rest =>
            obtain ⟨rfl, HL5⟩ := hcut
            clear HL4 hb53
            by_cases k0 : Web.dots (bs p) = 0
            · have k0' : (((Web.dots (bs p) : Nat) : Int) == 0) = true := beq_iff_eq.2 (by omega)
              go_wp2_with fail
              refine (pencode_c p 3 _ (by omega) (by decide)).mono ?_
              rintro e w4 ⟨q, rfl, Hq, hqs, b4⟩
              have HL6 := Lib.hid (Kd.R_below HL5.out b4)
              have HR5 := Lib.hid (HR4.out.below b4)
              have HB5 := Lib.hid (below_g HB4.out (Nat.le_of_lt HR4.out.lt) b4)
              clear HL5 HR4 HB4 b4
              go_wp2_with (first | ((with_reducible refine gate_builtin (b := .append) (xs := #[.tmp 54, .tmp 57]) rfl ?_); at_builtin; refine Kd.R_append Kd.string (w0 := w) g rfl (.tmp 54) (.tmp 57) 22 9 (.string ⟨#[]⟩) 16 rfl Tryz.underlying22 info9 rfl (by decide) (by omega) u2 ((afterDots L (bs p)).map ba) (q) [.string (q)] (fun k => k ≠ g) (fun _ => False) rfl rfl ?aP (fun _ hk => hk.elim) ?aF ?aO ?aB ?aS ?aL ?_; (case aP => exact rfl); (case aB => exact HB5.out); (case aF => exact fun k hk => by have := HR5.out.lt; omega); (case aO => exact HL6.out); (case aS => exact Nat.le_of_lt HR5.out.lt); (case aL => rw [List.length_map]; have := HLD.out; omega); intro v65 w9 ho hb hg9 hat; have HO := Lib.hid ho; have HB9 := Lib.hid hb; have HRB9 := Lib.hid (show RB w9 g x2 u from blk_grown HR5.out hg9 (by intro h; exact HL6.out.1 g h.symm rfl)); clear ho hb hg9 hat))
              go_roundw
              case rel =>
                refine ⟨afterDots L (bs p) ++ [Web.enc 3 (bs p)], x2, Lib.hid ?_, Lib.hid ?_, ?_, Lib.hid ?_, HRB9, HB9⟩
                · have := HO.out
                  have e9 : q = ba (Web.enc 3 (bs p)) := by rw [← ba_bs q, Hq.out]; rfl
                  rw [e9] at this
                  rw [List.map_append]
                  exact this
                · have := HNX.out
                  unfold Web.seg at this
                  simp only [if_pos k0] at this
                  exact this
                · rw [List.length_append]; have := HLD.out; simp only [List.length_cons, List.length_nil]; omega
                · intro y hy
                  rw [List.mem_append, List.mem_singleton] at hy
                  rcases hy with hy | rfl
                  · exact HSD.out y hy
                  · have := enc_len 3 (bs p); rw [bs_len] at this; omega
              case measure => rw [HRB9.out.c0, MX.out]; show x2.size < x.size; omega
            · have k0' : (((Web.dots (bs p) : Nat) : Int) == 0) = false := beq_eq_false_iff_ne.2 (by omega)
              cases last with
              | true =>
                go_wp2_with (first | ((with_reducible refine gate_builtin (b := .append) (xs := #[.tmp 60, .tmp 61]) rfl ?_); at_builtin; refine Kd.R_append Kd.string (w0 := w) g rfl (.tmp 60) (.tmp 61) 22 9 (.string ⟨#[]⟩) 16 rfl Tryz.underlying22 info9 rfl (by decide) (by omega) u2 ((afterDots L (bs p)).map ba) (⟨#[]⟩) [.string (⟨#[]⟩)] (fun k => k ≠ g) (fun _ => False) rfl rfl ?aP (fun _ hk => hk.elim) ?aF ?aO ?aB ?aS ?aL ?_; (case aP => exact rfl); (case aB => exact HB4.out); (case aF => exact fun k hk => by have := HR4.out.lt; omega); (case aO => exact HL5.out); (case aS => exact Nat.le_of_lt HR4.out.lt); (case aL => rw [List.length_map]; have := HLD.out; omega); intro v65 w9 ho hb hg9 hat; have HO := Lib.hid ho; have HB9 := Lib.hid hb; have HRB9 := Lib.hid (show RB w9 g x2 u from blk_grown HR4.out hg9 (by intro h; exact HL5.out.1 g h.symm rfl)); clear ho hb hg9 hat))
                go_roundw
                case rel =>
                  refine ⟨afterDots L (bs p) ++ [[]], x2, Lib.hid ?_, Lib.hid ?_, ?_, Lib.hid ?_, HRB9, HB9⟩
                  · rw [List.map_append]
                    exact HO.out
                  · have := HNX.out
                    unfold Web.seg at this
                    rw [if_neg k0] at this
                    exact this
                  · rw [List.length_append]; have := HLD.out; simp only [List.length_cons, List.length_nil]; omega
                  · intro y hy
                    rw [List.mem_append, List.mem_singleton] at hy
                    rcases hy with hy | rfl
                    · exact HSD.out y hy
                    · simp
                case measure => rw [HRB9.out.c0, MX.out]; show x2.size < x.size; omega
              | false =>
                go_wp2_with fail
                go_roundw
                case rel =>
                  refine ⟨afterDots L (bs p), x2, HL5, Lib.hid ?_, ?_, HSD, HR4, HB4⟩
                  · have := HNX.out
                    unfold Web.seg at this
                    rw [if_neg k0] at this
                    exact this
                  · have := HLD.out; omega
                case measure => rw [HR4.out.c0, MX.out]; show x2.size < x.size; omega
    · have HEND := Lib.hid (PJ_end HP.out hc)
      have HR2 := Lib.hid hr
      clear hc hr HQ HR1 HP
      obtain ⟨A, cp, rfl⟩ := Kd.R_slice HL2.out
      rw [List.length_map] at HL2
      go_wp2_with fail
      refine (join_c _ _ A cp L _ HL2.out HS.out (by omega)).mono ?_
      rintro e w2 ⟨j, rfl, HJ, hj, b2⟩
      have HR3 := Lib.hid (HR2.out.below b2)
      have HB3 := Lib.hid (below_g HB2.out (Nat.le_of_lt HR2.out.lt) b2)
      clear HR2 HB2 HL2 b2
      have q6 := HR3.out.c6
      have f6 := HR3.out.f 6
      have EP := Lib.hid (show bs (⟨#[47]⟩ ++ j : ByteArray) = Web.path (Web.brk qf (bs s)).1 by
        show bs (ba [47] ++ ba (bs j)) = _
        rw [ba_append, bs_ba, HJ.out, HEND.out.1]
        exact join_segs _)
      have HR4 := Lib.hid (show RB (w2.setCell ⟨g, 6, none⟩ (.string (⟨#[47]⟩ ++ j))) g x { u with path := Web.path (Web.brk qf (bs s)).1 } by
        rw [← EP.out]; exact HR3.out.set6 (bs (⟨#[47]⟩ ++ j)))
      have HB4 := Lib.hid (below_gset HB3.out 6 (.string (⟨#[47]⟩ ++ j)))
      go_wp2_with fail
      go_end0
      exact ⟨⟨_, rfl⟩, HB4.out, x, Lib.hid ⟨HEND.out.2, HR4.out⟩⟩
end Go.Proofs.YtcmcopieagpppaaGreatDoor.P
namespace Go.Proofs.YtcmcopieagpppaaGreatDoor.P
open Go.RowKit Go.Proofs.YtcmcopieagpppaaGreatDoorW.PrintWords Go.Proofs.YtcmcopieagpppaaGreatDoorW.PrintLast Go.Proofs.YtcmcopieagpppaaGreatDoorW.PrintMore
set_option linter.unusedVariables false
set_option linter.unusedSimpArgs false
def blankR (r : Nat) : Bool := decide (r ≤ 32)
set_option maxRecDepth 100000 in
theorem decodeN_big (n b0 b1 b2 b3 : Nat) (h : 128 ≤ b0) : 128 ≤ (Lib.decodeN n b0 b1 b2 b3).1 := by
  unfold Lib.decodeN
  rw [if_neg (by omega)]
  repeat' split
  all_goals (dsimp only; omega)
theorem decode_blank (s : ByteArray) (pos : Nat) (h : pos < s.size) : (Web.blank s[pos] = true → Utf8.decode s pos = (s[pos].toNat, 1) ∧ blankR s[pos].toNat = true) ∧ (¬ Web.blank s[pos] = true → blankR (Utf8.decode s pos).1 = false) := by
  have e : s.data.toList.getD pos 0 = s[pos] := by
    have hl : pos < s.data.toList.length := by rw [size_list]; exact h
    rw [List.getD_eq_getElem?_getD, List.getElem?_eq_getElem hl]
    rfl
  rw [Lib.decode_N, e]
  unfold Web.blank blankR
  by_cases hb : s[pos].toNat ≤ 32
  · rw [Lib.decodeN_ascii _ _ _ _ _ (by omega)]
    exact ⟨fun _ => ⟨rfl, decide_eq_true hb⟩, fun h => absurd (decide_eq_true hb) h⟩
  · refine ⟨fun h => absurd (of_decide_eq_true h) hb, fun _ => ?_⟩
    rw [decide_eq_false_iff_not]
    by_cases h2 : s[pos].toNat < 128
    · rw [Lib.decodeN_ascii _ _ _ _ _ h2]; exact hb
    · have := decodeN_big (s.data.toList.length - pos) s[pos].toNat (s.data.toList.getD (pos + 1) 0).toNat (s.data.toList.getD (pos + 2) 0).toNat (s.data.toList.getD (pos + 3) 0).toNat (by omega)
      omega
theorem left_from (s : ByteArray) : ∀ (f pos : Nat), s.size ≤ pos + f →
    ((bs s).drop pos).dropWhile Web.blank = if Lib.idxFuncFrom blankR false s f pos = -1 then [] else (bs s).drop (Lib.idxFuncFrom blankR false s f pos).toNat
  | 0, pos, h => by
    rw [List.drop_eq_nil_of_le (by rw [bs_len]; omega)]
    rfl
  | f + 1, pos, h => by
    unfold Lib.idxFuncFrom
    by_cases hp : pos < s.size
    · have hd := decode_blank s pos hp
      have hl : pos < (bs s).length := by rw [bs_len]; exact hp
      rw [if_pos hp, List.drop_eq_getElem_cons hl]
      have hg : (bs s)[pos] = s[pos] := rfl
      rw [hg]
      by_cases hb : Web.blank s[pos] = true
      · have hd := hd.1 hb
        rw [List.dropWhile_cons_of_pos hb, hd.1]
        dsimp only
        simp only [hd.2, if_neg (show ¬ (true = false) by decide)]
        exact left_from s f (pos + 1) (by omega)
      · have hd := hd.2 hb
        rw [List.dropWhile_cons_of_neg hb, hd, if_pos rfl, if_neg (by omega), Int.toNat_natCast, List.drop_eq_getElem_cons hl]
        rfl
    · rw [if_neg hp, List.drop_eq_nil_of_le (by rw [bs_len]; omega)]
      rfl
theorem trimLeft_eq (s : ByteArray) : bs (Lib.trimLeftF blankR s) = (bs s).dropWhile Web.blank := by
  have h := left_from s s.size 0 (by omega)
  rw [List.drop_zero] at h
  unfold Lib.trimLeftF Lib.idxFunc
  rw [h]
  split
  · rfl
  · rw [bs_rest]
def endOf (l : List UInt8) : Nat → Nat
  | 0 => 0
  | i + 1 => if Web.blank (l.getD i 0) = true then endOf l i else i + 1
theorem last_blank (l : List UInt8) (i : Nat) (hi : 0 < i) (hil : i ≤ l.length) : (Web.blank (l.getD (i - 1) 0) = true → (Lib.decodeLastL (l.take i)).2 = 1 ∧ blankR (Lib.decodeLastL (l.take i)).1 = true) ∧ (¬ Web.blank (l.getD (i - 1) 0) = true → blankR (Lib.decodeLastL (l.take i)).1 = false) := by
  have hbig : 128 ≤ (l.getD (i - 1) 0).toNat → Web.blank (l.getD (i - 1) 0) = false := fun h => by unfold Web.blank; rw [decide_eq_false_iff_not]; omega
  rcases Lib.last_cases l i hi hil with ⟨ha, hd⟩ | ⟨ha, hd⟩ | ⟨ha, st, hst, hd, hsum⟩
  · rw [hd]
    unfold Web.blank blankR
    exact ⟨fun h => ⟨rfl, h⟩, fun h => Bool.eq_false_iff.2 h⟩
  · rw [hd, hbig ha]
    exact ⟨fun h => (by cases h), fun _ => by decide⟩
  · rw [hbig ha, hd]
    refine ⟨fun h => (by cases h), fun _ => ?_⟩
    unfold blankR
    rw [decide_eq_false_iff_not, Lib.decodeL_N]
    have hxl : ((l.take i).drop st).length = i - st := by rw [List.length_drop, List.length_take]; omega
    rw [Lib.decodeL_N] at hsum
    by_cases h0 : (((l.take i).drop st).getD 0 0).toNat < 128
    · rw [Lib.decodeN_ascii _ _ _ _ _ h0] at hsum
      dsimp only at hsum
      have e : ((l.take i).drop st).getD 0 0 = l.getD (i - 1) 0 := by
        rw [Lib.getD_dropU, Nat.add_zero, show i - 1 = st from by omega, Lib.getD_takeU l i st hst]
      rw [e] at h0
      omega
    · have := decodeN_big ((l.take i).drop st).length (((l.take i).drop st).getD 0 0).toNat (((l.take i).drop st).getD 1 0).toNat (((l.take i).drop st).getD 2 0).toNat (((l.take i).drop st).getD 3 0).toNat (by omega)
      omega
theorem right_from (s : ByteArray) : ∀ (f i : Nat), i ≤ f → i ≤ (bs s).length → Lib.OpenAt (bs s) i →
    (if 0 ≤ Lib.lastIdxFuncFrom blankR false s f i then (Lib.lastIdxFuncFrom blankR false s f i).toNat + (Lib.decodeGoB (s.extract (Lib.lastIdxFuncFrom blankR false s f i).toNat s.size)).2 else 0) = endOf (bs s) i
  | 0, i, h, _, _ => by
    obtain rfl : i = 0 := by omega
    rfl
  | f + 1, 0, _, _, _ => rfl
  | f + 1, i + 1, h, hl, ho => by
    have hb := last_blank (bs s) (i + 1) (by omega) hl
    have hw := Lib.fw_width (bs s) (i + 1) (by omega) hl ho
    unfold Lib.lastIdxFuncFrom
    rw [if_pos (show 0 < i + 1 by omega)]
    have hbs : s.data.toList = bs s := rfl
    rw [hbs]
    rw [Nat.add_sub_cancel] at hb
    unfold endOf
    by_cases hq : Web.blank ((bs s).getD i 0) = true
    · have hb := hb.1 hq
      rw [if_pos hq]
      simp only [hb.2, if_neg (show ¬ (true = false) by decide), hb.1, Nat.add_sub_cancel]
      refine right_from s f i (by omega) (by omega) (.inr ?_)
      unfold Web.blank at hq
      have := of_decide_eq_true hq
      omega
    · have hb := hb.2 hq
      rw [if_neg hq]
      rw [hb, if_pos rfl, if_pos (by omega), Int.toNat_natCast]
      generalize hk : (Lib.decodeLastL ((bs s).take (i + 1))).2 = k at hw
      have hk1 : 1 ≤ k ∧ k ≤ i + 1 := by
        rcases Lib.last_cases (bs s) (i + 1) (by omega) hl with ⟨ha, hd⟩ | ⟨ha, hd⟩ | ⟨ha, st, hst, hd, hsum⟩
        · rw [hd] at hk; dsimp only at hk; omega
        · rw [hd] at hk; dsimp only at hk; omega
        · rw [hd] at hk
          have := Lib.decodeL_width (((bs s).take (i + 1)).drop st)
          omega
      have e1 : (Lib.decodeGoB (s.extract (i + 1 - k) s.size)).2 = k := by
        refine Eq.trans ?_ hw
        unfold Lib.decodeGoB
        have hsz : (s.extract (i + 1 - k) s.size).size ≠ 0 := by rw [ByteArray.size_extract]; rw [bs_len] at hl; omega
        rw [if_neg hsz]
        have := Lib.decodeL_drop (s.extract (i + 1 - k) s.size) 0
        rw [List.drop_zero] at this
        rw [← this]
        have e2 : (s.extract (i + 1 - k) s.size).data.toList = (bs s).drop (i + 1 - k) := bs_rest s _
        rw [e2]
      rw [e1]
      omega
theorem endOf_take (l : List UInt8) : ∀ i : Nat, i ≤ l.length → l.take (endOf l i) = ((l.take i).reverse.dropWhile Web.blank).reverse
  | 0, _ => rfl
  | i + 1, h => by
    have hi : i < l.length := by omega
    have e : l.getD i 0 = l[i] := by rw [List.getD_eq_getElem?_getD, List.getElem?_eq_getElem hi]; rfl
    have et : l.take (i + 1) = l.take i ++ [l[i]] := by rw [List.take_add_one, List.getElem?_eq_getElem hi]; rfl
    unfold endOf
    rw [e, et, List.reverse_append, List.reverse_singleton, List.singleton_append]
    by_cases hb : Web.blank l[i] = true
    · rw [if_pos hb, List.dropWhile_cons_of_pos hb]
      exact endOf_take l i (by omega)
    · rw [if_neg hb, List.dropWhile_cons_of_neg hb, et]
      simp
theorem trim_eq (s : ByteArray) : bs (Lib.trimF blankR s) = Web.trim (bs s) := by
  unfold Lib.trimF Lib.trimRightF
  rw [bs_head]
  unfold Lib.rightEndF Lib.lastIdxFunc
  have hl := bs_len (Lib.trimLeftF blankR s)
  rw [right_from _ _ _ (Nat.le_refl _) (by omega) (.inl hl.symm), ← hl, endOf_take _ _ (Nat.le_refl _), List.take_length, trimLeft_eq]
  rfl
end Go.Proofs.YtcmcopieagpppaaGreatDoor.P
namespace Go.Proofs.YtcmcopieagpppaaGreatDoor.P
open Go.RowKit Go.Proofs.YtcmcopieagpppaaGreatDoorW.PrintWords Go.Proofs.YtcmcopieagpppaaGreatDoorW.PrintLast Go.Proofs.YtcmcopieagpppaaGreatDoorW.PrintMore
set_option linter.unusedVariables false
set_option linter.unusedSimpArgs false
theorem blank_closure (r : Nat) (w : World) : Calls Tryz.prog 52 #[.int .i32 (r : Int)] w fun e w' => e = .returned (.bool (blankR r)) ∧ ∃ q, w' = w.drewN q := by
  go_enter Tryz.func52, Tryz.ntmps52
  go_wp2_with fail
  go_ret
  refine ⟨?_, 0, rfl⟩
  have : decide ((r : Int) ≤ 32) = blankR r := by unfold blankR; rw [decide_eq_decide]; omega
  rw [← this]
  rfl
theorem trimfunc_c (s : ByteArray) (w : World) (hs : s.size ≤ 9223372036854775807) (hT : Lib.Utf8Tabs 0 1 w) :
    Calls Tryz.prog 51 #[.string s, .func (.func 52) #[] #[]] w fun e w' => ∃ r : ByteArray, e = .returned (.string r) ∧ Hid (bs r = Web.trim (bs s)) ∧ Below w.heap.size w w' := by
  have hp : PredAt Tryz.prog 52 #[] encR blankR w := fun W x hb => blank_closure x W
  refine (Tryz.strings_TrimFunc 52 #[] (enters_of Tryz.func52 (by kernel_rfl) rfl) blankR s w hs hT hp).mono ?_
  rintro e w1 ⟨rfl, hb⟩
  exact ⟨_, rfl, Lib.hid (trim_eq s), hb⟩
end Go.Proofs.YtcmcopieagpppaaGreatDoor.P
namespace Go.Proofs.YtcmcopieagpppaaGreatDoor.P
open Go.RowKit Go.Proofs.YtcmcopieagpppaaGreatDoorW.PrintWords Go.Proofs.YtcmcopieagpppaaGreatDoorW.PrintLast Go.Proofs.YtcmcopieagpppaaGreatDoorW.PrintMore
set_option linter.unusedVariables false
set_option linter.unusedSimpArgs false
def six : List ByteArray := [ba [9], ba [], ba [10], ba [], ba [13], ba []]
def RplNew (w : World) (g base : Nat) : Prop := ∃ A c, w.heap[g]? = some (.cells #[.int .u32 0, .int .i32 0, .int .u32 0, .nilIface, .slice A 6 c] 116 (0, 0)) ∧ Kd.R Kd.string 9 w base (fun k => k ≠ g) (.slice A 6 c) six
set_option maxRecDepth 100000 in
set_option maxHeartbeats 2000000 in
theorem newReplacer_walk (b : Nat) (w : World) (hb : b < w.heap.size) (hC : Kd.C Kd.string w (some ⟨b, 0, none⟩) 6 six) : Calls Tryz.prog 53 #[.slice (some ⟨b, 0, none⟩) 6 6] w fun e w' => ∃ g, e = .returned (.pointer (some ⟨g, 0, none⟩)) ∧ w.heap.size ≤ g ∧ Hid (RplNew w' g w.heap.size) ∧ Below w.heap.size w w' := by
  have HC := Lib.hid hC
  clear hC
  go_enter Tryz.func53, Tryz.ntmps53
  go_wp2_with (first | ((with_reducible refine gate_builtin (b := .append) (xs := #[.const (.slice none 0 0), .tmp 8]) rfl ?_); at_builtin; refine Kd.R_append_row Value.string (⟨#[]⟩ : ByteArray) (h1 := fun _ => rfl) (w0 := w) w.heap.size rfl (.const (.slice none 0 0)) (.tmp 8) 22 9 (.string ⟨#[]⟩) 16 rfl Tryz.underlying22 info9 rfl (by omega) (.slice none 0 0) [] six (some ⟨b, 0, none⟩) 6 6 (fun _ => True) rfl rfl (fun _ _ => trivial) (Kd.R_nil _ _ _ _ _) HC.out (Below.refl _ _) (Nat.le_refl _) (by decide) ?_; intro v1 w1 ho hb1 hg1 hat; obtain ⟨A1, cp1, rfl⟩ := Kd.R_slice ho; have HO := Lib.hid (show Kd.R Kd.string 9 w1 w.heap.size (fun _ => True) (.slice A1 6 cp1) six from ho); have HB := Lib.hid hb1; clear ho hb1 hg1 hat))
  go_ret
  refine ⟨w1.heap.size, rfl, HB.out.size, Lib.hid ⟨A1, cp1, heap_alloc_new _ _, ?_⟩, below_alloc HB.out _⟩
  exact Kd.R_mono (Kd.R_alloc (Kd.R_bound HO.out) _) (fun k hk => by have := hk.2.2.1; omega)
end Go.Proofs.YtcmcopieagpppaaGreatDoor.P
namespace Go.Proofs.YtcmcopieagpppaaGreatDoor.P
open Go.RowKit Go.Proofs.YtcmcopieagpppaaGreatDoorW.PrintWords Go.Proofs.YtcmcopieagpppaaGreatDoorW.PrintLast Go.Proofs.YtcmcopieagpppaaGreatDoorW.PrintMore
set_option linter.unusedVariables false
set_option linter.unusedSimpArgs false
theorem sy_disable (w : World) : (callFunc 207 #[]).run Tryz.prog w = .ok (.value (.tuple #[])) w := run_call_mark0 Tryz.func207 (by kernel_rfl) (by kernel_rfl) (by kernel_rfl) .disable (by kernel_rfl) w
theorem sy_enable (w : World) : (callFunc 209 #[]).run Tryz.prog w = .ok (.value (.tuple #[])) w := run_call_mark0 Tryz.func209 (by kernel_rfl) (by kernel_rfl) (by kernel_rfl) .enable (by kernel_rfl) w
theorem sy_acquire (a : Addr) (w : World) : (callFunc 210 #[.pointer (some a)]).run Tryz.prog w = .ok (.value (.tuple #[])) w := run_call_marked Tryz.func210 (by kernel_rfl) (by kernel_rfl) (by kernel_rfl) .acquire (by kernel_rfl) a w
theorem sy_releaseMerge (a : Addr) (w : World) : (callFunc 212 #[.pointer (some a)]).run Tryz.prog w = .ok (.value (.tuple #[])) w := run_call_marked Tryz.func212 (by kernel_rfl) (by kernel_rfl) (by kernel_rfl) .releaseMerge (by kernel_rfl) a w
theorem store_deferred (a : Addr) (x : Value) (u : FrameMode) (w : World) (hc : w.cell? a = some x) (hz : w.frozen? a = false) :
    CallsD Tryz.prog 168 #[.pointer (some a), .bool true] u w fun e u' w' => u' = u ∧ (e = .returned (.tuple #[]) ∧ w' = w.drew.setCell a (.int .u32 1)) := by
  have hc' : w.drew.cell? a = some x := by go_simp
  have hz' : w.drew.frozen? a = false := by go_simp
  have hst := run_call_store (P := Tryz.prog) Tryz.func195 (by kernel_rfl) (by kernel_rfl) (by kernel_rfl) (by kernel_rfl) (k := .u32) (y := 1) hc' hz'
  go_enter_d Tryz.func168, Tryz.ntmps168
  go_wp2
  go_region_calls
  all_goals (go_end0; exact ⟨rfl, rfl⟩)
set_option maxRecDepth 100000 in
set_option maxHeartbeats 1600000 in
theorem unlock_deferred (a : Addr) (u : FrameMode) (w : World) (hc : w.cell? a = some (.int .i32 1)) (hz : w.frozen? a = false) :
    CallsD Tryz.prog 167 #[.pointer (some a)] u w fun e u' w' => u' = u ∧ (e = .returned (.tuple #[]) ∧ w' = w.setCell a (.int .i32 0)) := by
  have hd := sy_disable
  have he := sy_enable
  have hr := sy_releaseMerge
  have hadd := run_call_add (P := Tryz.prog) Tryz.func213 (by kernel_rfl) (by kernel_rfl) (by kernel_rfl) .i32 (by kernel_rfl) (y := -1) (s := 0) hc hz (by simp [go_sem]; rfl)
  have hcv := run_convert_to_unsafe (P := Tryz.prog) (src := 221) (dst := 213) Tryz.underlying221 Tryz.underlying213 (by kernel_rfl) hc
  go_enter_d Tryz.func167, Tryz.ntmps167
  go_wp2
  go_end0
  go_wp2
  go_end0
  exact ⟨rfl, rfl⟩
set_option maxRecDepth 100000 in
set_option maxHeartbeats 1600000 in
theorem lock_free (a : Addr) (w : World) (hc : w.cell? a = some (.int .i32 0)) (hz : w.frozen? a = false) :
    Calls Tryz.prog 166 #[.pointer (some a)] w fun e w' => e = .returned (.tuple #[]) ∧ w' = w.setCell a (.int .i32 1) := by
  have hd := sy_disable
  have he := sy_enable
  have ha := sy_acquire
  have hcas := run_call_cas_hit (P := Tryz.prog) Tryz.func208 (by kernel_rfl) (by kernel_rfl) (by kernel_rfl) .i32 (by kernel_rfl) (y := 1) hc hz
  have hc' : (w.setCell a (.int .i32 1)).cell? a = some (.int .i32 1) := World.cell?_setCell_same w a _ hc
  have hcv := run_convert_to_unsafe (P := Tryz.prog) (src := 221) (dst := 213) Tryz.underlying221 Tryz.underlying213 (by kernel_rfl) hc'
  go_enter Tryz.func166, Tryz.ntmps166
  go_wp2
  first | go_end0 | (simp only [Exit.inBlock, Exit.then]; refine bodyPost_ret (results_none rfl _ _ _) rfl ?_) | refine bodyPost_ret (results_none rfl _ _ _) rfl ?_
  go_wp2
  go_end0
  exact ⟨rfl, rfl⟩
end Go.Proofs.YtcmcopieagpppaaGreatDoor.P
namespace Go.Proofs.YtcmcopieagpppaaGreatDoor.P
open Go.RowKit Go.Proofs.YtcmcopieagpppaaGreatDoorW.PrintWords Go.Proofs.YtcmcopieagpppaaGreatDoorW.PrintLast Go.Proofs.YtcmcopieagpppaaGreatDoorW.PrintMore
set_option linter.unusedVariables false
set_option linter.unusedSimpArgs false
theorem six_cells {w : World} {base : Nat} {ok : Nat → Prop} {A : Option Addr} {c : Nat} (h : Kd.R Kd.string 9 w base ok (.slice A 6 c) six) : ∃ b, A = some ⟨b, 0, none⟩ ∧ b < w.heap.size ∧ ok b ∧ 6 ≤ c ∧
    w.cell? ⟨b, 0, none⟩ = some (.string ⟨#[9]⟩) ∧ w.cell? ⟨b, 1, none⟩ = some (.string ⟨#[]⟩) ∧ w.cell? ⟨b, 2, none⟩ = some (.string ⟨#[10]⟩) ∧ w.cell? ⟨b, 3, none⟩ = some (.string ⟨#[]⟩) ∧ w.cell? ⟨b, 4, none⟩ = some (.string ⟨#[13]⟩) ∧ w.cell? ⟨b, 5, none⟩ = some (.string ⟨#[]⟩) := by
  have hc := (Kd.R_reads' h).2.1
  obtain ⟨b, hb⟩ : ∃ b, A = some ⟨b, 0, none⟩ := by
    obtain ⟨_, inner, ho, _⟩ := h
    rcases ho.2 with ⟨hv, _⟩ | ⟨g, cap', cur, hv, _⟩
    · injection hv with _ hv _
      cases hv
    · injection hv with ha _ _
      exact ⟨g, ha⟩
  subst hb
  have hC := (Kd.R_reads' h).2.2
  have key : ∀ j : Nat, j < 6 → w.cell? ⟨b, j, none⟩ = some (.string (six.getD j ByteArray.empty)) := by
    intro j hj
    obtain ⟨ad, e0, hx⟩ := Kd.at_string hC (j : Int) (by omega) (by show (j : Int) < 6; omega)
    cases e0
    have e2 : (⟨b, 0, none⟩ : Addr).add ((j : Int)).toNat = ⟨b, j, none⟩ := by simp [Addr.add]; omega
    rw [e2] at hx
    rw [hx]
    unfold rdOf
    rw [Int.toNat_natCast]
  refine ⟨b, rfl, Kd.C_lt hC (by decide) (by decide), h.1 b rfl, hc, key 0 (by omega), key 1 (by omega), key 2 (by omega), key 3 (by omega), key 4 (by omega), key 5 (by omega)⟩
theorem make_three : ∀ W : World, (Instr.makeSlice 22 (.int .i64 0) (.int .i64 3)).run Tryz.prog W = .ok (.slice (some ⟨W.heap.size, 0, none⟩) 0 3) (W.alloc (.cells #[.string ⟨#[]⟩, .string ⟨#[]⟩, .string ⟨#[]⟩] 9)) := by
  intro W
  obtain ⟨i, hi, hz, hsz, hb⟩ := info_parts info9
  have := run_makeSlice (P := Tryz.prog) (w := W) 22 9 i _ Tryz.underlying22 hi hz .i64 .i64 0 3 (by omega) (by omega) (by rw [hsz]; decide) (by rw [hb]; decide) (by omega)
  rw [hsz] at this
  have e : madeCells (Value.string (⟨#[]⟩ : ByteArray)).cells (Int.toNat 3 * 1) = #[.string ⟨#[]⟩, .string ⟨#[]⟩, .string ⟨#[]⟩] := by kernel_rfl
  rw [e] at this
  exact this
noncomputable def bsr (v : Value) : Array Value := ⟨Tryz.zeroCells192.toList.set 256 v⟩
set_option maxRecDepth 100000 in
theorem store_bsr (wr : World) (n c : Nat) (A : Option Addr) : (storeCells ⟨wr.heap.size + 1, 0, none⟩ (Tryz.zeroCells192.toList.set 256 (.slice A n c))).run Tryz.prog ((wr.alloc (.cells #[.string ⟨#[]⟩, .string ⟨#[]⟩, .string ⟨#[]⟩] 9)).alloc (.cells Tryz.zeroCells192 192)) = .ok () ((wr.alloc (.cells #[.string ⟨#[]⟩, .string ⟨#[]⟩, .string ⟨#[]⟩] 9)).alloc (.cells (bsr (.slice A n c)) 192)) := by
  have hs : (bsr (.slice A n c)).size = 257 := by
    show (Tryz.zeroCells192.toList.set 256 _).length = 257
    rw [List.length_set]
    kernel_rfl
  have := run_storeCells_new (P := Tryz.prog) (wr.alloc (.cells #[.string ⟨#[]⟩, .string ⟨#[]⟩, .string ⟨#[]⟩] 9)) 192 Tryz.zeroCells192 (bsr (.slice A n c)) (by rw [hs]; kernel_rfl) (by rw [hs]; kernel_rfl) (by kernel_rfl)
  have e : (wr.alloc (.cells #[.string ⟨#[]⟩, .string ⟨#[]⟩, .string ⟨#[]⟩] 9)).heap.size = wr.heap.size + 1 := by
    show (wr.heap.push _).size = _
    rw [Array.size_push]
  rw [e] at this
  exact this
def Bsr (w : World) (B base : Nat) (done : List UInt8) : Prop := ∃ (cs : Array Value) (v : Value), w.heap[B]? = some (.cells cs 192 (0, 0)) ∧ cs.size = 257 ∧ cs[256]? = some v ∧
  Kd.R Kd.string 9 w base (fun k => k ≠ B) v (done.map fun c => ba [c]) ∧
  ∀ c : UInt8, (c ∉ done → cs[c.toNat]? = some (.slice none 0 0)) ∧ (c ∈ done → ∃ A cp, cs[c.toNat]? = some (.slice (some A) 0 cp))
set_option maxRecDepth 100000 in
theorem zero192 : Tryz.zeroCells192.toList = List.replicate 257 (.slice none 0 0) := by kernel_rfl
theorem bsr_get (v : Value) (n : Nat) (h : n < 256) : (bsr v)[n]? = some (.slice none 0 0) := by
  unfold bsr
  rw [List.getElem?_toArray, List.getElem?_set_ne (by omega), zero192, List.getElem?_replicate, if_pos (by omega)]
theorem bsr_start (w : World) : Bsr ((w.alloc (.cells #[.string ⟨#[]⟩, .string ⟨#[]⟩, .string ⟨#[]⟩] 9)).alloc (.cells (bsr (.slice (some ⟨w.heap.size, 0, none⟩) 0 3)) 192)) (w.heap.size + 1) w.heap.size [] := by
  have e : (w.alloc (.cells #[.string ⟨#[]⟩, .string ⟨#[]⟩, .string ⟨#[]⟩] 9)).heap.size = w.heap.size + 1 := by
    show (w.heap.push _).size = _
    rw [Array.size_push]
  refine ⟨bsr (.slice (some ⟨w.heap.size, 0, none⟩) 0 3), .slice (some ⟨w.heap.size, 0, none⟩) 0 3, ?_, ?_, ?_, ?_, ?_⟩
  · rw [← e]; exact heap_alloc_new _ _
  · show (Tryz.zeroCells192.toList.set 256 _).length = 257
    rw [List.length_set, zero192, List.length_replicate]
  · unfold bsr
    rw [List.getElem?_toArray, List.getElem?_set_self (by rw [zero192, List.length_replicate]; omega)]
  · have ho := World.ownsRow_made (base := w.heap.size) (e := 9) (size := 1) w #[.string ⟨#[]⟩, .string ⟨#[]⟩, .string ⟨#[]⟩] 3 (Nat.le_refl _) (by decide) rfl
    have hr : Kd.R Kd.string 9 (w.alloc (.cells #[.string ⟨#[]⟩, .string ⟨#[]⟩, .string ⟨#[]⟩] 9)) w.heap.size (fun k => k ≠ w.heap.size + 1) (.slice (some ⟨w.heap.size, 0, none⟩) 0 3) [] := Kd.R_of_own ho (fun k hk => by
      have : w.heap.size = k := by simpa [Value.ownBlock] using hk
      omega)
    exact Kd.R_alloc hr _
  · exact fun c => ⟨fun _ => bsr_get _ _ c.toNat_lt, fun h => absurd h (by simp)⟩
theorem Bsr_next {wa w9 : World} {B base : Nat} {o : UInt8} {done : List UInt8} {cs : Array Value} {v v9 : Value} (hblk : wa.heap[B]? = some (.cells cs 192 (0, 0))) (hsz : cs.size = 257)
    (hcs : ∀ c : UInt8, (c ∉ done → cs[c.toNat]? = some (.slice none 0 0)) ∧ (c ∈ done → ∃ A cp, cs[c.toNat]? = some (.slice (some A) 0 cp)))
    (hg : wa.grownBy w9 v.ownBlock) (hne : some B ≠ v.ownBlock) (hR : Kd.R Kd.string 9 w9 base (fun k => k ≠ B) v9 (done.map (fun c => ba [c]) ++ [ba [o]])) (A : Addr) (cp : Nat) :
    Bsr ((Lib.bytesWorld (w9.setCell ⟨B, 256, none⟩ v9) 5 ⟨#[]⟩).setCell ⟨B, o.toNat, none⟩ (.slice (some A) 0 cp)) B base (done ++ [o]) := by
  have ho := o.toNat_lt
  have k1 := blk_set (blk_grown hblk hg hne) 256 v9
  have hB := Below.refl (w9.setCell ⟨B, 256, none⟩ v9).heap.size (w9.setCell ⟨B, 256, none⟩ v9)
  have hbw := bytes_below hB (Nat.le_refl _) 5 ⟨#[]⟩
  have k2 := blk_set (blk_below k1 hbw) o.toNat (.slice (some A) 0 cp)
  refine ⟨_, v9, k2, ?_, ?_, ?_, ?_⟩
  · rw [Array.size_setIfInBounds, Array.size_setIfInBounds, hsz]
  · rw [Array.getElem?_setIfInBounds_ne (by omega), Array.getElem?_setIfInBounds_self_of_lt (by omega)]
  · rw [List.map_append]
    exact Kd.R_far (Kd.R_below (Kd.R_far hR (fun k hk => hk) _) hbw) (fun k hk => hk) _
  · intro c
    have hc := c.toNat_lt
    by_cases e : c = o
    · subst e
      refine ⟨fun h => absurd (by simp) h, fun _ => ⟨A, cp, ?_⟩⟩
      rw [Array.getElem?_setIfInBounds_self_of_lt (by rw [Array.size_setIfInBounds]; omega)]
    · have hne : o.toNat ≠ c.toNat := fun h => e (UInt8.toNat_inj.1 h.symm)
      rw [Array.getElem?_setIfInBounds_ne hne, Array.getElem?_setIfInBounds_ne (by omega)]
      refine ⟨fun h => (hcs c).1 (fun h2 => h (by simp [h2])), fun h => (hcs c).2 ?_⟩
      rcases List.mem_append.1 h with h | h
      · exact h
      · rw [List.mem_singleton] at h; exact absurd h e
theorem R_form {w : World} {base B : Nat} {v : Value} {xs : List ByteArray} (h : Kd.R Kd.string 9 w base (fun k => k ≠ B) v xs) : ∃ A n c, v = .slice A n c := by
  obtain ⟨A, c, e⟩ := Kd.R_slice h
  exact ⟨A, _, c, e⟩
theorem R_own {w : World} {base B : Nat} {v : Value} {xs : List ByteArray} (h : Kd.R Kd.string 9 w base (fun k => k ≠ B) v xs) : some B ≠ v.ownBlock := fun e => h.1 B e.symm rfl
set_option maxRecDepth 100000 in
set_option maxHeartbeats 2000000 in
theorem build_walk (g b c : Nat) (w : World) (hbl : b < w.heap.size) (hg : w.cell? ⟨g, 4, none⟩ = some (.slice (some ⟨b, 0, none⟩) 6 c)) (hc : 6 ≤ c)
    (h0 : w.cell? ⟨b, 0, none⟩ = some (.string ⟨#[9]⟩)) (h1 : w.cell? ⟨b, 1, none⟩ = some (.string ⟨#[]⟩)) (h2 : w.cell? ⟨b, 2, none⟩ = some (.string ⟨#[10]⟩)) (h3 : w.cell? ⟨b, 3, none⟩ = some (.string ⟨#[]⟩)) (h4 : w.cell? ⟨b, 4, none⟩ = some (.string ⟨#[13]⟩)) (h5 : w.cell? ⟨b, 5, none⟩ = some (.string ⟨#[]⟩)) :
    Calls Tryz.prog 129 #[.pointer (some ⟨g, 0, none⟩)] w fun e w' => ∃ B, e = .returned (.iface 193 (.pointer (some ⟨B, 0, none⟩))) ∧ w.heap.size ≤ B ∧ Hid (Bsr w' B w.heap.size [13, 10, 9]) ∧ Below w.heap.size w w' := by
  have hmk := make_three
  have hst := store_bsr
  go_enter Tryz.func129, Tryz.ntmps129
  go_wp2_with fail
  go_loopw [4, 5] (fun v4 v5 wr => ∃ (a : Bool) (i : Int), v4 = .bool a ∧ v5 = .int .i64 i ∧ wr = w ∧ ((i = 0 ∧ a = true) ∨ (i = 2 ∧ a = false) ∨ (i = 4 ∧ a = false) ∨ (i = 6 ∧ a = false))) (fun _ v _ => (6 - intOf v).toNat)
  case atStart => exact ⟨true, 0, rfl, rfl, rfl, .inl ⟨rfl, rfl⟩⟩
  case round =>
    obtain ⟨a, i, rfl, rfl, rfl, hi⟩ := hrel
    rcases hi with ⟨rfl, rfl⟩ | ⟨rfl, rfl⟩ | ⟨rfl, rfl⟩ | ⟨rfl, rfl⟩
    · go_wp2_with fail
      go_roundw
      case rel => exact ⟨false, 2, rfl, rfl, by first | rfl | trivial, .inr (.inl ⟨rfl, rfl⟩)⟩
      case measure => decide
    · go_wp2_with fail
      go_roundw
      case rel => exact ⟨false, 4, rfl, rfl, by first | rfl | trivial, .inr (.inr (.inl ⟨rfl, rfl⟩))⟩
      case measure => decide
    · go_wp2_with fail
      go_roundw
      case rel => exact ⟨false, 6, rfl, rfl, by first | rfl | trivial, .inr (.inr (.inr ⟨rfl, rfl⟩))⟩
      case measure => decide
    · go_wp2_with fail
      clear hmk hst
      have B1 := Lib.hid (below_alloc (below_alloc (Below.refl wr.heap.size wr) (.cells #[.string ⟨#[]⟩, .string ⟨#[]⟩, .string ⟨#[]⟩] 9 (0, 0))) (.cells (bsr (.slice (some ⟨wr.heap.size, 0, none⟩) 0 3)) 192 (0, 0)))
      have S1 := Lib.hid (bsr_start wr)
      have H0 := Lib.hid h0; have H1 := Lib.hid h1; have H2 := Lib.hid h2; have H3 := Lib.hid h3; have H4 := Lib.hid h4; have H5 := Lib.hid h5
      clear h0 h1 h2 h3 h4 h5
      generalize (wr.alloc (.cells #[.string ⟨#[]⟩, .string ⟨#[]⟩, .string ⟨#[]⟩] 9 (0, 0))).alloc (.cells (bsr (.slice (some ⟨wr.heap.size, 0, none⟩) 0 3)) 192 (0, 0)) = w1 at B1 S1 ⊢
      generalize hB : wr.heap.size + 1 = B at S1 ⊢
      obtain ⟨w0, rfl⟩ : ∃ wo : World, wo = wr := ⟨_, rfl⟩
      have hBle : w0.heap.size ≤ B := by omega
      clear hB
      have hnil := fun (W : World) (a : Option Addr) (n c : Nat) => Lib.run_eql_slice_nil (P := Tryz.prog) W 46 5 a n c 0 0 Tryz.underlying46
      go_loopw [12] (fun v12 wx => ∃ (i : Int) (done : List UInt8), v12 = .int .i64 i ∧ ((i = 4 ∧ done = []) ∨ (i = 2 ∧ done = [13]) ∨ (i = 0 ∧ done = [13, 10]) ∨ (i = -2 ∧ done = [13, 10, 9])) ∧ Hid (Bsr wx B w0.heap.size done) ∧ Hid (Below w0.heap.size w0 wx)) (fun v _ => (intOf v + 2).toNat)
      case atStart => exact ⟨4, [], rfl, .inl ⟨rfl, rfl⟩, S1, B1⟩
      case round =>
        obtain ⟨i, done, rfl, hi, HS, HB⟩ := hrel
        obtain ⟨wx, rfl⟩ : ∃ wo : World, wo = wr := ⟨_, rfl⟩
        rcases hi with ⟨rfl, rfl⟩ | ⟨rfl, rfl⟩ | ⟨rfl, rfl⟩ | ⟨rfl, rfl⟩
        · obtain ⟨cs, v, hblk, hsz, hv, hR, hcs⟩ := HS.out
          have hBx := blk_lt hblk
          have hbase : w0.heap.size ≤ wx.heap.size := by omega
          have k4 := (HB.out.cell (p := ⟨b, 4, none⟩) hbl).trans H4.out
          have k5 := (HB.out.cell (p := ⟨b, 5, none⟩) hbl).trans H5.out
          have ZZ := Lib.hid ((hcs 13).1 (by decide))
          have z13 := (blk_cell hblk 13).trans ((hcs 13).1 (by decide))
          obtain ⟨vA, vc, rfl⟩ := Kd.R_slice hR
          have z256 := (blk_cell hblk 256).trans hv
          have f13 := blk_frozen hblk 13
          have f256 := blk_frozen hblk 256
          have hcv := string_of_reads (P := Tryz.prog) (src := 46) (dst := 9) (c := 1) Tryz.underlying46 Tryz.underlying5 Tryz.underlying9 (read_one wx 13)
          rw [strOfNums_one] at hcv
          have hcv : (convert 46 9 (.slice (some ⟨wx.heap.size, 0, none⟩) 1 1)).run Tryz.prog (wx.alloc (.cells #[.int .u8 13] 5)) = .ok (.string (ba [13])) (wx.alloc (.cells #[.int .u8 13] 5)) := hcv
          have kb := fun W : World => print_bytes (P := Tryz.prog) 9 46 5 Tryz.underlying9 Tryz.underlying46 Tryz.underlying5 (⟨#[]⟩ : ByteArray) W
          have HBK := Lib.hid (blk_alloc hblk (.cells #[.int .u8 13] 5))
          have HCS := Lib.hid hcs
          have HSZ := Lib.hid hsz
          have HV := Lib.hid hv
          have HR := Lib.hid (Kd.R_alloc hR (.cells #[.int .u8 13] 5))
          have HBA := Lib.hid (HB.out.alloc hbase (.cells #[.int .u8 13] 5))
          clear hblk hcs hR hv hsz
          have b13 : ((⟨#[13]⟩ : ByteArray)[0]'(by decide)).toNat = 13 := rfl
          go_wp2_with (first | (at_builtin; ((with_reducible refine gate_builtin (b := .append) (xs := #[.tmp 119, .tmp 123]) rfl ?_); refine Kd.R_append Kd.string (w0 := w0) w0.heap.size rfl (.tmp 119) (.tmp 123) 22 9 (.string ⟨#[]⟩) 16 rfl Tryz.underlying22 info9 rfl (by decide) (by omega) (.slice vA _ vc) (([] : List UInt8).map fun c => ba [c]) (ba [13]) [.string (ba [13])] (fun k => k ≠ B) (fun _ => False) rfl ?aX ?aP (fun _ hk => hk.elim) ?aF ?aO ?aB ?aS ?aL ?_; (case aX => go_simp); (case aP => exact rfl); (case aB => exact HBA.out); (case aF => exact fun k hk => by simp at hk; omega); (case aO => exact HR.out); (case aS => simp; omega); (case aL => decide); intro v9 w9 ho hb hg9 hat; obtain ⟨A9, n9, c9, rfl⟩ := R_form ho; have HN := Lib.hid (fun (A : Addr) (cp : Nat) => Bsr_next (o := 13) HBK.out HSZ.out HCS.out hg9 (R_own HR.out) ho A cp); have HB9 := Lib.hid hb; have HS9 := Lib.hid (Nat.le_trans HBA.out.size hg9.size); have HG9 := Lib.hid (blk_grown HBK.out hg9 (R_own HR.out)); clear ho hb hg9 hat; have q256 := (blk_cell HG9.out 256).trans HV.out; have qf := blk_frozen HG9.out 256; have HG10 := Lib.hid (blk_below (blk_set HG9.out 256 (.slice A9 n9 c9)) (bytes_below (Below.refl _ _) (Nat.le_refl _) 5 ⟨#[]⟩)); have q13 := (blk_cell HG10.out 13).trans ((Array.getElem?_setIfInBounds_ne (by decide)).trans ZZ.out); have qf13 := blk_frozen HG10.out 13)))
          go_roundw
          case rel => exact ⟨2, [13], rfl, .inr (.inl ⟨rfl, rfl⟩), Lib.hid (HN.out _ _), Lib.hid ((bytes_below (HB9.out.setCell hBle _) (HB9.out.setCell hBle _).size 5 ⟨#[]⟩).setCell hBle _)⟩
          case measure => decide
        · obtain ⟨cs, v, hblk, hsz, hv, hR, hcs⟩ := HS.out
          have hBx := blk_lt hblk
          have hbase : w0.heap.size ≤ wx.heap.size := by omega
          have k4 := (HB.out.cell (p := ⟨b, 2, none⟩) hbl).trans H2.out
          have k5 := (HB.out.cell (p := ⟨b, 3, none⟩) hbl).trans H3.out
          have ZZ := Lib.hid ((hcs 10).1 (by decide))
          have z13 := (blk_cell hblk 10).trans ((hcs 10).1 (by decide))
          obtain ⟨vA, vc, rfl⟩ := Kd.R_slice hR
          have z256 := (blk_cell hblk 256).trans hv
          have f13 := blk_frozen hblk 10
          have f256 := blk_frozen hblk 256
          have hcv := string_of_reads (P := Tryz.prog) (src := 46) (dst := 9) (c := 1) Tryz.underlying46 Tryz.underlying5 Tryz.underlying9 (read_one wx 10)
          rw [strOfNums_one] at hcv
          have hcv : (convert 46 9 (.slice (some ⟨wx.heap.size, 0, none⟩) 1 1)).run Tryz.prog (wx.alloc (.cells #[.int .u8 10] 5)) = .ok (.string (ba [10])) (wx.alloc (.cells #[.int .u8 10] 5)) := hcv
          have kb := fun W : World => print_bytes (P := Tryz.prog) 9 46 5 Tryz.underlying9 Tryz.underlying46 Tryz.underlying5 (⟨#[]⟩ : ByteArray) W
          have HBK := Lib.hid (blk_alloc hblk (.cells #[.int .u8 10] 5))
          have HCS := Lib.hid hcs
          have HSZ := Lib.hid hsz
          have HV := Lib.hid hv
          have HR := Lib.hid (Kd.R_alloc hR (.cells #[.int .u8 10] 5))
          have HBA := Lib.hid (HB.out.alloc hbase (.cells #[.int .u8 10] 5))
          clear hblk hcs hR hv hsz
          have b13 : ((⟨#[10]⟩ : ByteArray)[0]'(by decide)).toNat = 10 := rfl
          go_wp2_with (first | (at_builtin; ((with_reducible refine gate_builtin (b := .append) (xs := #[.tmp 119, .tmp 123]) rfl ?_); refine Kd.R_append Kd.string (w0 := w0) w0.heap.size rfl (.tmp 119) (.tmp 123) 22 9 (.string ⟨#[]⟩) 16 rfl Tryz.underlying22 info9 rfl (by decide) (by omega) (.slice vA _ vc) (([13] : List UInt8).map fun c => ba [c]) (ba [10]) [.string (ba [10])] (fun k => k ≠ B) (fun _ => False) rfl ?aX ?aP (fun _ hk => hk.elim) ?aF ?aO ?aB ?aS ?aL ?_; (case aX => go_simp); (case aP => exact rfl); (case aB => exact HBA.out); (case aF => exact fun k hk => by simp at hk; omega); (case aO => exact HR.out); (case aS => simp; omega); (case aL => decide); intro v9 w9 ho hb hg9 hat; obtain ⟨A9, n9, c9, rfl⟩ := R_form ho; have HN := Lib.hid (fun (A : Addr) (cp : Nat) => Bsr_next (o := 10) HBK.out HSZ.out HCS.out hg9 (R_own HR.out) ho A cp); have HB9 := Lib.hid hb; have HS9 := Lib.hid (Nat.le_trans HBA.out.size hg9.size); have HG9 := Lib.hid (blk_grown HBK.out hg9 (R_own HR.out)); clear ho hb hg9 hat; have q256 := (blk_cell HG9.out 256).trans HV.out; have qf := blk_frozen HG9.out 256; have HG10 := Lib.hid (blk_below (blk_set HG9.out 256 (.slice A9 n9 c9)) (bytes_below (Below.refl _ _) (Nat.le_refl _) 5 ⟨#[]⟩)); have q13 := (blk_cell HG10.out 10).trans ((Array.getElem?_setIfInBounds_ne (by decide)).trans ZZ.out); have qf13 := blk_frozen HG10.out 10)))
          go_roundw
          case rel => exact ⟨0, [13, 10], rfl, .inr (.inr (.inl ⟨rfl, rfl⟩)), Lib.hid (HN.out _ _), Lib.hid ((bytes_below (HB9.out.setCell hBle _) (HB9.out.setCell hBle _).size 5 ⟨#[]⟩).setCell hBle _)⟩
          case measure => decide
        · obtain ⟨cs, v, hblk, hsz, hv, hR, hcs⟩ := HS.out
          have hBx := blk_lt hblk
          have hbase : w0.heap.size ≤ wx.heap.size := by omega
          have k4 := (HB.out.cell (p := ⟨b, 0, none⟩) hbl).trans H0.out
          have k5 := (HB.out.cell (p := ⟨b, 1, none⟩) hbl).trans H1.out
          have ZZ := Lib.hid ((hcs 9).1 (by decide))
          have z13 := (blk_cell hblk 9).trans ((hcs 9).1 (by decide))
          obtain ⟨vA, vc, rfl⟩ := Kd.R_slice hR
          have z256 := (blk_cell hblk 256).trans hv
          have f13 := blk_frozen hblk 9
          have f256 := blk_frozen hblk 256
          have hcv := string_of_reads (P := Tryz.prog) (src := 46) (dst := 9) (c := 1) Tryz.underlying46 Tryz.underlying5 Tryz.underlying9 (read_one wx 9)
          rw [strOfNums_one] at hcv
          have hcv : (convert 46 9 (.slice (some ⟨wx.heap.size, 0, none⟩) 1 1)).run Tryz.prog (wx.alloc (.cells #[.int .u8 9] 5)) = .ok (.string (ba [9])) (wx.alloc (.cells #[.int .u8 9] 5)) := hcv
          have kb := fun W : World => print_bytes (P := Tryz.prog) 9 46 5 Tryz.underlying9 Tryz.underlying46 Tryz.underlying5 (⟨#[]⟩ : ByteArray) W
          have HBK := Lib.hid (blk_alloc hblk (.cells #[.int .u8 9] 5))
          have HCS := Lib.hid hcs
          have HSZ := Lib.hid hsz
          have HV := Lib.hid hv
          have HR := Lib.hid (Kd.R_alloc hR (.cells #[.int .u8 9] 5))
          have HBA := Lib.hid (HB.out.alloc hbase (.cells #[.int .u8 9] 5))
          clear hblk hcs hR hv hsz
          have b13 : ((⟨#[9]⟩ : ByteArray)[0]'(by decide)).toNat = 9 := rfl
          go_wp2_with (first | (at_builtin; ((with_reducible refine gate_builtin (b := .append) (xs := #[.tmp 119, .tmp 123]) rfl ?_); refine Kd.R_append Kd.string (w0 := w0) w0.heap.size rfl (.tmp 119) (.tmp 123) 22 9 (.string ⟨#[]⟩) 16 rfl Tryz.underlying22 info9 rfl (by decide) (by omega) (.slice vA _ vc) (([13, 10] : List UInt8).map fun c => ba [c]) (ba [9]) [.string (ba [9])] (fun k => k ≠ B) (fun _ => False) rfl ?aX ?aP (fun _ hk => hk.elim) ?aF ?aO ?aB ?aS ?aL ?_; (case aX => go_simp); (case aP => exact rfl); (case aB => exact HBA.out); (case aF => exact fun k hk => by simp at hk; omega); (case aO => exact HR.out); (case aS => simp; omega); (case aL => decide); intro v9 w9 ho hb hg9 hat; obtain ⟨A9, n9, c9, rfl⟩ := R_form ho; have HN := Lib.hid (fun (A : Addr) (cp : Nat) => Bsr_next (o := 9) HBK.out HSZ.out HCS.out hg9 (R_own HR.out) ho A cp); have HB9 := Lib.hid hb; have HS9 := Lib.hid (Nat.le_trans HBA.out.size hg9.size); have HG9 := Lib.hid (blk_grown HBK.out hg9 (R_own HR.out)); clear ho hb hg9 hat; have q256 := (blk_cell HG9.out 256).trans HV.out; have qf := blk_frozen HG9.out 256; have HG10 := Lib.hid (blk_below (blk_set HG9.out 256 (.slice A9 n9 c9)) (bytes_below (Below.refl _ _) (Nat.le_refl _) 5 ⟨#[]⟩)); have q13 := (blk_cell HG10.out 9).trans ((Array.getElem?_setIfInBounds_ne (by decide)).trans ZZ.out); have qf13 := blk_frozen HG10.out 9)))
          go_roundw
          case rel => exact ⟨-2, [13, 10, 9], rfl, .inr (.inr (.inr ⟨rfl, rfl⟩)), Lib.hid (HN.out _ _), Lib.hid ((bytes_below (HB9.out.setCell hBle _) (HB9.out.setCell hBle _).size 5 ⟨#[]⟩).setCell hBle _)⟩
          case measure => decide
        · go_wp2_with fail
          go_ret
          exact ⟨B, rfl, hBle, HS, HB.out⟩
end Go.Proofs.YtcmcopieagpppaaGreatDoor.P
namespace Go.Proofs.YtcmcopieagpppaaGreatDoor.P
open Go.RowKit Go.Proofs.YtcmcopieagpppaaGreatDoorW.PrintWords Go.Proofs.YtcmcopieagpppaaGreatDoorW.PrintLast Go.Proofs.YtcmcopieagpppaaGreatDoorW.PrintMore
set_option linter.unusedVariables false
set_option linter.unusedSimpArgs false
theorem Bsr_far {w : World} {B base : Nat} {done : List UInt8} (h : Bsr w B base done) {p : Addr} (h1 : p.block < base) (h2 : B ≠ p.block) (u : Value) : Bsr (w.setCell p u) B base done := by
  obtain ⟨cs, v, hblk, hsz, hv, hR, hcs⟩ := h
  exact ⟨cs, v, blk_far hblk h2 u, hsz, hv, Kd.R_mono (Kd.R_far (Kd.R_bound hR) (fun k hk => by have := hk.2.1; omega) u) (fun k hk => hk.1), hcs⟩
theorem Bsr_below {w w1 : World} {B base : Nat} {done : List UInt8} (h : Bsr w B base done) (hb : Below w.heap.size w w1) : Bsr w1 B base done := by
  obtain ⟨cs, v, hblk, hsz, hv, hR, hcs⟩ := h
  exact ⟨cs, v, blk_below hblk hb, hsz, hv, Kd.R_below hR hb, hcs⟩
set_option maxRecDepth 100000 in
set_option maxHeartbeats 2000000 in
theorem buildOnce_walk (g : Nat) (w : World) (d0 d1 d2 d3 : Value) (A : Option Addr) (c base : Nat) (hblk : w.heap[g]? = some (.cells #[d0, d1, d2, d3, .slice A 6 c] 116 (0, 0))) (hR : Kd.R Kd.string 9 w base (fun k => k ≠ g) (.slice A 6 c) six) :
    Calls Tryz.prog 87 #[.pointer (some ⟨g, 0, none⟩)] w fun e w' => e = .returned (.tuple #[]) ∧ ∃ B, w.heap.size ≤ B ∧ Hid (w'.heap[g]? = some (.cells #[d0, d1, d2, .iface 193 (.pointer (some ⟨B, 0, none⟩)), .slice none 0 0] 116 (0, 0))) ∧ Hid (Bsr w' B w.heap.size [13, 10, 9]) ∧ Below g w w' := by
  obtain ⟨b, rfl, hb, hok, hc, h0, h1, h2, h3, h4, h5⟩ := six_cells hR
  have k := build_walk g b c w hb ((blk_cell hblk 4).trans rfl) hc h0 h1 h2 h3 h4 h5
  have K := Lib.hid k
  have HB := Lib.hid hblk
  have hlt := blk_lt hblk
  clear k h0 h1 h2 h3 h4 h5 hR hblk hc
  go_enter Tryz.func87, Tryz.ntmps87
  go_wp2_with (go_at_call 129; refine (K.out).mono ?_; rintro e w1 ⟨B, rfl, hB, HS, hb1⟩; have HG := Lib.hid (blk_below HB.out hb1); have HG1 := Lib.hid (blk_set HG.out 3 (.iface 193 (.pointer (some ⟨B, 0, none⟩)))); have z3 := (blk_cell HG.out 3).trans rfl; have f3 := blk_frozen HG.out 3; have z4 := (blk_cell HG1.out 4).trans rfl; have f4 := blk_frozen HG1.out 4; have HBB := Lib.hid hb1; clear hb1)
  go_end0
  exact ⟨rfl, B, hB, Lib.hid (blk_set HG1.out 4 (.slice none 0 0)), Lib.hid (Bsr_far (p := ⟨g, 4, none⟩) (Bsr_far (p := ⟨g, 3, none⟩) HS.out hlt (by show B ≠ g; omega) _) hlt (by show B ≠ g; omega) _), (((HBB.out.mono (Nat.le_of_lt hlt)).setCell (p := ⟨g, 3, none⟩) (Nat.le_refl _) _).setCell (p := ⟨g, 4, none⟩) (Nat.le_refl _) _)⟩
theorem load_zero (a : Addr) (w : World) (hc : w.cell? a = some (.int .u32 0)) : Calls Tryz.prog 127 #[.pointer (some a)] w fun e w' => e = .returned (.bool false) ∧ w = w' := by
  have hl := run_call_load (P := Tryz.prog) Tryz.func165 (by kernel_rfl) (by kernel_rfl) (by kernel_rfl) .u32 (by kernel_rfl) hc
  clear hc
  go_enter Tryz.func127, Tryz.ntmps127
  go_wp2
  go_ret
  exact ⟨rfl, rfl⟩
theorem Bsr_drew {w : World} {B base : Nat} {done : List UInt8} (h : Bsr w B base done) : Bsr w.drew B base done := Bsr_below h (below_drew (Below.refl _ _))
theorem slow_cells {w : World} {g : Nat} {r : Value} {sl : Value} (h : w.heap[g]? = some (.cells #[.int .u32 0, .int .i32 1, .int .u32 0, r, sl] 116 (0, 0))) : (w.drew.setCell ⟨g, 0, none⟩ (.int .u32 1)).cell? ⟨g, 1, none⟩ = some (.int .i32 1) := by
  have h' : w.drew.heap[g]? = _ := blk_drew h
  exact (blk_cell (blk_set h' 0 (.int .u32 1)) 1).trans rfl
set_option maxRecDepth 100000 in
set_option maxHeartbeats 4000000 in
theorem slow_walk (g : Nat) (w : World) (A : Option Addr) (c base : Nat) (hblk : w.heap[g]? = some (.cells #[.int .u32 0, .int .i32 0, .int .u32 0, .nilIface, .slice A 6 c] 116 (0, 0))) (hR : Kd.R Kd.string 9 w base (fun k => k ≠ g) (.slice A 6 c) six) :
    Calls Tryz.prog 128 #[.pointer (some ⟨g, 0, none⟩), .func (.func 87) #[.pointer (some ⟨g, 0, none⟩)] #[]] w fun e w' => e = .returned (.tuple #[]) ∧ ∃ B, w.heap.size ≤ B ∧ Hid (w'.heap[g]? = some (.cells #[.int .u32 1, .int .i32 0, .int .u32 0, .iface 193 (.pointer (some ⟨B, 0, none⟩)), .slice none 0 0] 116 (0, 0))) ∧ Hid (Bsr w' B w.heap.size [13, 10, 9]) ∧ Below g w w' := by
  have hlt := blk_lt hblk
  have c0 := (blk_cell hblk 0).trans rfl
  have c1 := (blk_cell hblk 1).trans rfl
  have f1 := blk_frozen hblk 1
  have hblk1 := blk_set hblk 1 (.int .i32 1)
  have hsz1 : (w.setCell ⟨g, 1, none⟩ (.int .i32 1)).heap.size = w.heap.size := by simp [World.setCell]
  have l0 := (blk_cell hblk1 0).trans rfl
  have k := buildOnce_walk g (w.setCell ⟨g, 1, none⟩ (.int .i32 1)) _ _ _ _ A c base hblk1 (Kd.R_far hR (fun k hk => hk) _)
  rw [hsz1] at k
  have K := Lib.hid k
  have L0 := Lib.hid (load_zero ⟨g, 0, none⟩ _ l0)
  have L1 := Lib.hid (lock_free ⟨g, 1, none⟩ w c1 f1)
  have HW := Lib.hid (Below.refl g w)
  have hnot : ∀ (x : Bool) (w : World), (Op.unary .not (.bool x)).run Tryz.prog w = .ok (.bool (!x)) w := fun _ _ => rfl
  clear k hblk hR hblk1 hsz1 l0 c0 c1 f1
  go_enter_defers Tryz.func128, Tryz.ntmps128
  go_wp2_with (go_at_call 166; refine (L1.out).mono ?_; rintro e w' ⟨rfl, rfl⟩)
  refine (L0.out).mono ?_
  rintro e w' ⟨rfl, rfl⟩
  go_wp2_with fail
  refine (K.out).mono ?_
  rintro e w1 ⟨rfl, B, hB, HG, HS, hb1⟩
  have HW1 := Lib.hid (((HW.out).setCell (p := ⟨g, 1, none⟩) (Nat.le_refl _) (.int .i32 1)).trans hb1)
  clear hb1
  go_wp2
  refine leaves_cons (f := 168) (args := #[.pointer (some ⟨g, 0, none⟩), .bool true]) (by simp) (by simp [go_sem]) ?_
  refine (store_deferred ⟨g, 0, none⟩ (.int .u32 0) .returning _ ((blk_cell HG.out 0).trans rfl) (blk_frozen HG.out 0)).mono ?_
  rintro e u' w'' ⟨rfl, rfl, rfl⟩
  refine leaves_cons (f := 167) (args := #[.pointer (some ⟨g, 1, none⟩)]) (by simp [settle]) (by simp [go_sem]) ?_
  refine (unlock_deferred ⟨g, 1, none⟩ _ _ (slow_cells HG.out) (blk_frozen (blk_set (blk_drew HG.out) 0 (.int .u32 1)) 1)).mono ?_
  rintro e u' w'' ⟨rfl, rfl, rfl⟩
  have HG2 := Lib.hid (blk_set (blk_set (blk_drew HG.out) 0 (.int .u32 1)) 1 (.int .i32 0))
  have HS2 := Lib.hid (Bsr_far (p := ⟨g, 1, none⟩) (Bsr_far (w := w1.drew) (p := ⟨g, 0, none⟩) (Bsr_drew HS.out) hlt (by show B ≠ g; omega) (.int .u32 1)) hlt (by show B ≠ g; omega) (.int .i32 0))
  have HW2 := Lib.hid (((below_drew HW1.out).setCell (p := ⟨g, 0, none⟩) (Nat.le_refl _) (.int .u32 1)).setCell (p := ⟨g, 1, none⟩) (Nat.le_refl _) (.int .i32 0))
  have fin : ∃ B, w.heap.size ≤ B ∧ Hid (((w1.drew.setCell ⟨g, 0, none⟩ (.int .u32 1)).setCell ⟨g, 1, none⟩ (.int .i32 0)).heap[g]? = some (.cells #[.int .u32 1, .int .i32 0, .int .u32 0, .iface 193 (.pointer (some ⟨B, 0, none⟩)), .slice none 0 0] 116 (0, 0))) ∧ Hid (Bsr ((w1.drew.setCell ⟨g, 0, none⟩ (.int .u32 1)).setCell ⟨g, 1, none⟩ (.int .i32 0)) B w.heap.size [13, 10, 9]) ∧ Below g w ((w1.drew.setCell ⟨g, 0, none⟩ (.int .u32 1)).setCell ⟨g, 1, none⟩ (.int .i32 0)) := ⟨B, hB, HG2, HS2, HW2.out⟩
  clear HG HS HW1 HG2 HS2 HW2
  generalize (w1.drew.setCell ⟨g, 0, none⟩ (.int .u32 1)).setCell ⟨g, 1, none⟩ (.int .i32 0) = w9 at fin ⊢
  have FIN := Lib.hid fin
  clear fin
  simp [Leaves, settle, results, Tryz.results128]
  exact FIN.out
def Built (w w' : World) (g : Nat) : Prop := ∃ B, w.heap.size ≤ B ∧ Hid (w'.heap[g]? = some (.cells #[.int .u32 1, .int .i32 0, .int .u32 0, .iface 193 (.pointer (some ⟨B, 0, none⟩)), .slice none 0 0] 116 (0, 0))) ∧ Hid (Bsr w' B w.heap.size [13, 10, 9]) ∧ Below g w w'
set_option maxRecDepth 100000 in
set_option maxHeartbeats 2000000 in
theorem do_walk (g : Nat) (w : World) (A : Option Addr) (c base : Nat) (hblk : w.heap[g]? = some (.cells #[.int .u32 0, .int .i32 0, .int .u32 0, .nilIface, .slice A 6 c] 116 (0, 0))) (hR : Kd.R Kd.string 9 w base (fun k => k ≠ g) (.slice A 6 c) six) :
    Calls Tryz.prog 86 #[.pointer (some ⟨g, 0, none⟩), .func (.func 87) #[.pointer (some ⟨g, 0, none⟩)] #[]] w fun e w' => e = .returned (.tuple #[]) ∧ Built w w' g := by
  have S := Lib.hid (slow_walk g w A c base hblk hR)
  have L0 := Lib.hid (load_zero ⟨g, 0, none⟩ w ((blk_cell hblk 0).trans rfl))
  have hnot : ∀ (x : Bool) (w : World), (Op.unary .not (.bool x)).run Tryz.prog w = .ok (.bool (!x)) w := fun _ _ => rfl
  clear hblk hR
  go_enter Tryz.func86, Tryz.ntmps86
  go_wp2_with (first | (go_at_call 128; refine (S.out).mono ?_; rintro e w1 ⟨rfl, h1⟩; have HF := Lib.hid (show Built w w1 g from h1); clear h1) | (go_at_call 127; refine (L0.out).mono ?_; rintro e w' ⟨rfl, rfl⟩))
  go_end0
  exact ⟨rfl, HF.out⟩
end Go.Proofs.YtcmcopieagpppaaGreatDoor.P
namespace Go.Proofs.YtcmcopieagpppaaGreatDoor.P
set_option linter.unusedVariables false
set_option linter.unusedSimpArgs false
def nt (c : UInt8) : Bool := !Web.tabbed c
end Go.Proofs.YtcmcopieagpppaaGreatDoor.P
namespace Go.Proofs.YtcmcopieagpppaaGreatDoor.P
open Go.RowKit Go.Proofs.YtcmcopieagpppaaGreatDoorW.PrintWords Go.Proofs.YtcmcopieagpppaaGreatDoorW.PrintLast Go.Proofs.YtcmcopieagpppaaGreatDoorW.PrintMore
set_option linter.unusedVariables false
set_option linter.unusedSimpArgs false
def cnt (l : List UInt8) : Nat := l.countP Web.tabbed
theorem cnt_sum : ∀ l : List UInt8, cnt l = l.count 13 + l.count 10 + l.count 9
  | [] => rfl
  | c :: t => by
    have ih := cnt_sum t
    unfold cnt at ih ⊢
    rw [List.countP_cons, List.count_cons, List.count_cons, List.count_cons, ih]
    by_cases h1 : c = 13
    · subst h1; simp [Web.tabbed]; omega
    by_cases h2 : c = 10
    · subst h2; simp [Web.tabbed]; omega
    by_cases h3 : c = 9
    · subst h3; simp [Web.tabbed]; omega
    simp [Web.tabbed, h1, h2, h3]
theorem cnt_le (l : List UInt8) : cnt l ≤ l.length := List.countP_le_length
theorem filter_len (l : List UInt8) : (l.filter nt).length + cnt l = l.length := by
  unfold cnt nt
  induction l with
  | nil => rfl
  | cons c t ih =>
    rw [List.countP_cons, List.length_cons]
    by_cases h : Web.tabbed c = true
    · rw [List.filter_cons_of_neg (by rw [h]; decide), if_pos h]; omega
    · rw [List.filter_cons_of_pos (by rw [Bool.eq_false_iff.2 h]; rfl), if_neg h, List.length_cons]; omega
theorem filter_all (l : List UInt8) (h : cnt l = 0) : l.filter nt = l := by
  rw [List.filter_eq_self]
  intro c hc
  unfold cnt at h
  have := (List.countP_eq_zero.1 h) c hc
  unfold nt
  simpa using this
theorem take_get {s : ByteArray} {i : Nat} (h : i < s.size) : (bs s).take (i + 1) = (bs s).take i ++ [s[i]] := by
  have hl : i < (bs s).length := by rw [bs_len]; exact h
  rw [List.take_add_one, List.getElem?_eq_getElem hl]; rfl
theorem cnt_snoc (l : List UInt8) (c : UInt8) : cnt (l ++ [c]) = cnt l + if Web.tabbed c = true then 1 else 0 := by
  unfold cnt
  rw [List.countP_append, List.countP_cons, List.countP_nil]
  omega
theorem filter_snoc (l : List UInt8) (c : UInt8) : (l ++ [c]).filter nt = l.filter nt ++ (if Web.tabbed c = true then [] else [c]) := by
  rw [List.filter_append]
  congr 1
  unfold nt
  by_cases h : Web.tabbed c = true
  · rw [if_pos h, List.filter_cons_of_neg (by rw [h]; decide)]; rfl
  · rw [if_neg h, List.filter_cons_of_pos (by rw [Bool.eq_false_iff.2 h]; rfl)]; rfl
theorem filter_take_le (l : List UInt8) (i : Nat) : ((l.take i).filter nt).length ≤ (l.filter nt).length := by
  conv => rhs; rw [← List.take_append_drop i l, List.filter_append, List.length_append]
  omega
def RplAt (w : World) (B : Nat) : Prop := ∀ c : UInt8, (¬ Web.tabbed c = true → w.cell? ⟨B, c.toNat, none⟩ = some (.slice none 0 0)) ∧ (Web.tabbed c = true → ∃ A cp, w.cell? ⟨B, c.toNat, none⟩ = some (.slice (some A) 0 cp))
theorem RplAt.below {w w1 : World} {B : Nat} (h : RplAt w B) (hB : B < w.heap.size) (hb : Below w.heap.size w w1) : RplAt w1 B := by
  intro c
  have e := hb.cell (p := ⟨B, c.toNat, none⟩) hB
  rw [e]
  exact h c
theorem tabbed_mem (c : UInt8) : Web.tabbed c = true ↔ c ∈ ([13, 10, 9] : List UInt8) := by
  unfold Web.tabbed
  simp only [Bool.or_eq_true, beq_iff_eq, List.mem_cons, List.not_mem_nil, or_false]
  constructor
  · rintro ((h | h) | h)
    · exact .inr (.inr h)
    · exact .inr (.inl h)
    · exact .inl h
  · rintro (h | h | h)
    · exact .inr h
    · exact .inl (.inr h)
    · exact .inl (.inl h)
theorem Bsr_open {w : World} {B base : Nat} (h : Bsr w B base [13, 10, 9]) : B < w.heap.size ∧ RplAt w B ∧ ∃ r c, w.cell? ⟨B, 256, none⟩ = some (.slice (some ⟨r, 0, none⟩) 3 c) ∧ r < w.heap.size ∧ 3 ≤ c ∧ w.cell? ⟨r, 0, none⟩ = some (.string ⟨#[13]⟩) ∧ w.cell? ⟨r, 1, none⟩ = some (.string ⟨#[10]⟩) ∧ w.cell? ⟨r, 2, none⟩ = some (.string ⟨#[9]⟩) := by
  obtain ⟨cs, v, hblk, hsz, hv, hR, hcs⟩ := h
  refine ⟨blk_lt hblk, fun c => ⟨fun hc => ?_, fun hc => ?_⟩, ?_⟩
  · rw [blk_cell hblk]; exact (hcs c).1 (fun h => hc ((tabbed_mem c).2 h))
  · rw [blk_cell hblk]; exact (hcs c).2 ((tabbed_mem c).1 hc)
  · obtain ⟨A, c, rfl⟩ := Kd.R_slice hR
    have hc := (Kd.R_reads' hR).2.1
    obtain ⟨b, hb⟩ : ∃ b, A = some ⟨b, 0, none⟩ := by
      obtain ⟨_, inner, ho, _⟩ := hR
      rcases ho.2 with ⟨hv, _⟩ | ⟨g, cap', cur, hv, _⟩
      · injection hv with _ hv _
        cases hv
      · injection hv with ha _ _
        exact ⟨g, ha⟩
    subst hb
    have hC := (Kd.R_reads' hR).2.2
    have key : ∀ j : Nat, j < 3 → w.cell? ⟨b, j, none⟩ = some (.string ((([13, 10, 9] : List UInt8).map fun c => ba [c]).getD j ByteArray.empty)) := by
      intro j hj
      obtain ⟨ad, e0, hx⟩ := Kd.at_string hC (j : Int) (by omega) (by show (j : Int) < 3; omega)
      cases e0
      have e2 : (⟨b, 0, none⟩ : Addr).add ((j : Int)).toNat = ⟨b, j, none⟩ := by simp [Addr.add]; omega
      rw [e2] at hx
      rw [hx]
      unfold rdOf
      rw [Int.toNat_natCast]
    exact ⟨b, c, (blk_cell hblk 256).trans hv, Kd.C_lt hC (by decide) (by decide), hc, key 0 (by omega), key 1 (by omega), key 2 (by omega)⟩
def outN (l : List UInt8) : Nat → Nat
  | 0 => 0
  | 1 => l.count 13
  | 2 => l.count 13 + l.count 10
  | _ => l.count 13 + l.count 10 + l.count 9
def BufRow (l : List UInt8) (g j : Nat) (W : World) : Prop := ∀ m, m < l.length → ∃ x : Int, W.cell? ⟨g, m, none⟩ = some (.int .u8 x) ∧ W.frozen? ⟨g, m, none⟩ = false ∧ (m < j → x = ((l.getD m 0).toNat : Int))
theorem BufRow.start (l : List UInt8) (w : World) : BufRow l w.heap.size 0 (w.alloc (.cells (madeCells #[.int .u8 0] l.length) 5)) := by
  intro m hm
  have hb := heap_alloc_new w (.cells (madeCells #[.int .u8 0] l.length) 5)
  refine ⟨0, ?_, blk_frozen hb m, fun h => absurd h (by omega)⟩
  rw [blk_cell hb]
  have := toList_madeCells_one (.int .u8 0) l.length
  rw [← Array.getElem?_toList, this, List.getElem?_replicate, if_pos hm]
theorem BufRow.put {l : List UInt8} {g j : Nat} {W : World} (h : BufRow l g j W) (hj : j < l.length) (c : UInt8) (hc : l[j]? = some c) : BufRow l g (j + 1) (W.setCell ⟨g, j, none⟩ (.int .u8 (c.toNat : Int))) := by
  intro m hm
  obtain ⟨x, h1, h2, h3⟩ := h m hm
  by_cases e : m = j
  · subst e
    refine ⟨_, World.cell?_setCell_same _ _ _ h1, by rw [World.frozen?_setCell]; exact h2, fun _ => ?_⟩
    rw [List.getD_eq_getElem?_getD, hc]
    rfl
  · refine ⟨x, ?_, by rw [World.frozen?_setCell]; exact h2, fun hlt => h3 (by omega)⟩
    rw [World.cell?_setCell_other _ _ _ _ (by intro e'; injection e' with _ e'; exact e e'.symm), h1]
theorem BufRow.reads {l : List UInt8} {g : Nat} {W : World} (h : BufRow l g l.length W) (hm : l.length ≤ 9223372036854775807) : ReadsInt W .u8 (some ⟨g, 0, none⟩) l.length (l.map fun b => (b.toNat : Int)) := by
  refine ⟨by simp, hm, fun _ => ⟨_, rfl, fun j hj => ?_⟩⟩
  rw [add_plain]
  obtain ⟨x, h1, _, h3⟩ := h j hj
  rw [h1, h3 hj]
  simp [List.getD_eq_getElem?_getD, List.getElem?_eq_getElem hj]
theorem make_bytes (n : Nat) (hn : n ≤ 100000) : ∀ W : World, (Instr.makeSlice 46 (.int .i64 (n : Int)) (.int .i64 (n : Int))).run Tryz.prog W = .ok (.slice (some ⟨W.heap.size, 0, none⟩) n n) (W.alloc (.cells (madeCells #[.int .u8 0] n) 5)) := by
  intro W
  obtain ⟨i, hi, hz, hsz, hb⟩ := info_parts info5
  have := run_makeSlice (P := Tryz.prog) (w := W) 46 5 i _ Tryz.underlying46 hi hz .i64 .i64 n n (by omega) (by omega) (by rw [hsz]; omega) (by rw [hb]; omega) (by omega)
  rw [hsz, Nat.mul_one, Int.toNat_natCast] at this
  exact this
end Go.Proofs.YtcmcopieagpppaaGreatDoor.P
namespace Go.Proofs.YtcmcopieagpppaaGreatDoor.P
open Go.RowKit Go.Proofs.YtcmcopieagpppaaGreatDoorW.PrintWords Go.Proofs.YtcmcopieagpppaaGreatDoorW.PrintLast Go.Proofs.YtcmcopieagpppaaGreatDoorW.PrintMore
set_option linter.unusedVariables false
set_option linter.unusedSimpArgs false
theorem outN_le (l : List UInt8) (k : Nat) : outN l k ≤ l.length := by
  have h := cnt_sum l
  have h2 := cnt_le l
  unfold outN
  split <;> omega
theorem outN_3 (l : List UInt8) : outN l 3 = cnt l := by rw [cnt_sum]; rfl
set_option maxRecDepth 100000 in
set_option maxHeartbeats 4000000 in
theorem bsr_replace (s : ByteArray) (w : World) (B base : Nat) (h : Bsr w B base [13, 10, 9]) (hs : s.size ≤ 100000) :
    Calls Tryz.prog 251 #[.pointer (some ⟨B, 0, none⟩), .string s] w fun e w' => ∃ r : ByteArray, e = .returned (.string r) ∧ Hid (bs r = (bs s).filter nt) ∧ Below w.heap.size w w' := by
  have hneT : ∀ (W : World) (a : Addr) (n c : Nat), (binOp .neq 46 (.slice (some a) n c) (.slice none 0 0)).run Tryz.prog W = .ok (.bool true) W := fun W a n c => run_neq_slice_nil_any (P := Tryz.prog) W 46 5 (some a) n c 0 0 Tryz.underlying46
  have hneF : ∀ (W : World), (binOp .neq 46 (.slice none 0 0) (.slice none 0 0)).run Tryz.prog W = .ok (.bool false) W := fun W => run_neq_slice_nil_any (P := Tryz.prog) W 46 5 none 0 0 0 0 Tryz.underlying46
  obtain ⟨hB, hat, r, c, q256, hr, hc3, x0, x1, x2⟩ := Bsr_open h
  have HAT := Lib.hid hat
  have Q := Lib.hid q256
  have X0 := Lib.hid x0; have X1 := Lib.hid x1; have X2 := Lib.hid x2
  clear hat x0 x1 x2 h
  go_enter Tryz.func251, Tryz.ntmps251
  go_upto_if 26 with (fail)
  go_cut [5, 6] (fun v5 v6 wc => v5 = .int .i64 ((s.size : Int) - (cnt (bs s) : Int)) ∧ v6 = .bool (decide (0 < cnt (bs s))) ∧ Hid (Below w.heap.size w wc))
  case first =>
    by_cases c24 : 24 ≤ s.size
    · have c24' : decide ((24 : Int) ≤ (s.size : Int)) = true := decide_eq_true (by omega)
      rw [c24']
      clear c24'
      go_wp2_with fail
      clear q256 c24
      go_loopw [5, 6, 32] (fun v5 v6 v32 wr => ∃ (i : Int) (k : Nat), v32 = .int .i64 i ∧ ((i = 0 ∧ k = 0) ∨ (i = 1 ∧ k = 1) ∨ (i = 2 ∧ k = 2) ∨ (i = 3 ∧ k = 3)) ∧ v5 = .int .i64 ((s.size : Int) - (outN (bs s) k : Int)) ∧ v6 = .bool (decide (0 < outN (bs s) k)) ∧ Hid (Below w.heap.size w wr)) (fun _ _ v _ => (3 - intOf v).toNat)
      case atStart => exact ⟨0, 0, rfl, .inl ⟨rfl, rfl⟩, by simp [outN], by simp [outN], Lib.hid (Below.refl _ _)⟩
      case round =>
        obtain ⟨i, k, rfl, hk, rfl, rfl, HB⟩ := hrel
        obtain ⟨wx, rfl⟩ : ∃ wo : World, wo = wr := ⟨_, rfl⟩
        rcases hk with ⟨rfl, rfl⟩ | ⟨rfl, rfl⟩ | ⟨rfl, rfl⟩ | ⟨rfl, rfl⟩
        · have kx := (HB.out.cell (p := ⟨r, 0, none⟩) hr).trans X0.out
          have AT := HAT.out.below hB HB.out
          obtain ⟨A, cp, kb⟩ := (AT 13).2 (by decide)
          have kb : wx.cell? ⟨B, 13, none⟩ = some (.slice (some A) 0 cp) := kb
          have cc : Calls Tryz.prog 199 #[.string s, .string ⟨#[13]⟩] wx fun e w' => e = .returned (.int .i64 (((bs s).count 13 : Nat) : Int)) ∧ w' = wx := Tryz.strings_Count_one s 13 wx
          have CC := Lib.hid cc
          obtain ⟨n0, hn0⟩ : ∃ n, outN (bs s) 0 = n := ⟨_, rfl⟩
          obtain ⟨n, hn⟩ : ∃ n, (bs s).count 13 = n := ⟨_, rfl⟩
          have N1 : Hid (outN (bs s) 1 = n0 + n) := Lib.hid (by rw [← hn0, ← hn]; simp [outN])
          have hle : n0 + n ≤ s.size := by rw [← N1.out, ← bs_len]; exact outN_le _ _
          rw [hn] at CC
          rw [hn0]
          clear hn0 hn AT cc
          by_cases hz : n = 0
          · subst hz
            go_wp2_with (go_at_call 199; refine (CC.out).mono ?_; rintro e w' ⟨rfl, hw⟩; rw [hw])
            go_roundw
            case rel => exact ⟨1, 1, rfl, .inr (.inl ⟨rfl, rfl⟩), by rw [N1.out, Nat.add_zero], by rw [N1.out, Nat.add_zero], HB⟩
            case measure => decide
          · have hz' : ((n : Int) != 0) = true := by simpa using hz
            have b0 : ((⟨#[13]⟩ : ByteArray)[0]'(by decide)).toNat = 13 := rfl
            go_wp2_with (go_at_call 199; refine (CC.out).mono ?_; rintro e w' ⟨rfl, hw⟩; rw [hw])
            have e1 : IntKind.i64.wrap ((0 : Int) - 1) = -1 := by decide
            have e2 : IntKind.i64.wrap ((n : Int) * -1) = -(n : Int) := by rw [IntWalk.i64_in _ (by omega)]; omega
            have e3 : IntKind.i64.wrap ((s.size : Int) - (n0 : Int) + -(n : Int)) = (s.size : Int) - ((n0 + n : Nat) : Int) := by rw [IntWalk.i64_in _ (by omega)]; omega
            have hp : Hid (0 < n0 + n) := Lib.hid (by omega)
            clear hz
            go_quiet (fail)
            clear e1 e2 e3
            go_wp2_with fail
            go_roundw
            case rel => exact ⟨1, 1, rfl, .inr (.inl ⟨rfl, rfl⟩), by rw [N1.out, Int.natCast_add], by rw [N1.out, decide_eq_true hp.out], Lib.hid (pw_below_drewN HB.out _)⟩
            case measure => decide
        · have kx := (HB.out.cell (p := ⟨r, 1, none⟩) hr).trans X1.out
          have AT := HAT.out.below hB HB.out
          obtain ⟨A, cp, kb⟩ := (AT 10).2 (by decide)
          have kb : wx.cell? ⟨B, 10, none⟩ = some (.slice (some A) 0 cp) := kb
          have cc : Calls Tryz.prog 199 #[.string s, .string ⟨#[10]⟩] wx fun e w' => e = .returned (.int .i64 (((bs s).count 10 : Nat) : Int)) ∧ w' = wx := Tryz.strings_Count_one s 10 wx
          have CC := Lib.hid cc
          obtain ⟨n0, hn0⟩ : ∃ n, outN (bs s) 1 = n := ⟨_, rfl⟩
          obtain ⟨n, hn⟩ : ∃ n, (bs s).count 10 = n := ⟨_, rfl⟩
          have N1 : Hid (outN (bs s) 2 = n0 + n) := Lib.hid (by rw [← hn0, ← hn]; simp [outN])
          have hle : n0 + n ≤ s.size := by rw [← N1.out, ← bs_len]; exact outN_le _ _
          rw [hn] at CC
          rw [hn0]
          clear hn0 hn AT cc
          by_cases hz : n = 0
          · subst hz
            go_wp2_with (go_at_call 199; refine (CC.out).mono ?_; rintro e w' ⟨rfl, hw⟩; rw [hw])
            go_roundw
            case rel => exact ⟨2, 2, rfl, .inr (.inr (.inl ⟨rfl, rfl⟩)), by rw [N1.out, Nat.add_zero], by rw [N1.out, Nat.add_zero], HB⟩
            case measure => decide
          · have hz' : ((n : Int) != 0) = true := by simpa using hz
            have b0 : ((⟨#[10]⟩ : ByteArray)[0]'(by decide)).toNat = 10 := rfl
            go_wp2_with (go_at_call 199; refine (CC.out).mono ?_; rintro e w' ⟨rfl, hw⟩; rw [hw])
            have e1 : IntKind.i64.wrap ((0 : Int) - 1) = -1 := by decide
            have e2 : IntKind.i64.wrap ((n : Int) * -1) = -(n : Int) := by rw [IntWalk.i64_in _ (by omega)]; omega
            have e3 : IntKind.i64.wrap ((s.size : Int) - (n0 : Int) + -(n : Int)) = (s.size : Int) - ((n0 + n : Nat) : Int) := by rw [IntWalk.i64_in _ (by omega)]; omega
            have hp : Hid (0 < n0 + n) := Lib.hid (by omega)
            clear hz
            go_quiet (fail)
            clear e1 e2 e3
            go_wp2_with fail
            go_roundw
            case rel => exact ⟨2, 2, rfl, .inr (.inr (.inl ⟨rfl, rfl⟩)), by rw [N1.out, Int.natCast_add], by rw [N1.out, decide_eq_true hp.out], Lib.hid (pw_below_drewN HB.out _)⟩
            case measure => decide
        · have kx := (HB.out.cell (p := ⟨r, 2, none⟩) hr).trans X2.out
          have AT := HAT.out.below hB HB.out
          obtain ⟨A, cp, kb⟩ := (AT 9).2 (by decide)
          have kb : wx.cell? ⟨B, 9, none⟩ = some (.slice (some A) 0 cp) := kb
          have cc : Calls Tryz.prog 199 #[.string s, .string ⟨#[9]⟩] wx fun e w' => e = .returned (.int .i64 (((bs s).count 9 : Nat) : Int)) ∧ w' = wx := Tryz.strings_Count_one s 9 wx
          have CC := Lib.hid cc
          obtain ⟨n0, hn0⟩ : ∃ n, outN (bs s) 2 = n := ⟨_, rfl⟩
          obtain ⟨n, hn⟩ : ∃ n, (bs s).count 9 = n := ⟨_, rfl⟩
          have N1 : Hid (outN (bs s) 3 = n0 + n) := Lib.hid (by rw [← hn0, ← hn]; simp [outN])
          have hle : n0 + n ≤ s.size := by rw [← N1.out, ← bs_len]; exact outN_le _ _
          rw [hn] at CC
          rw [hn0]
          clear hn0 hn AT cc
          by_cases hz : n = 0
          · subst hz
            go_wp2_with (go_at_call 199; refine (CC.out).mono ?_; rintro e w' ⟨rfl, hw⟩; rw [hw])
            go_roundw
            case rel => exact ⟨3, 3, rfl, .inr (.inr (.inr ⟨rfl, rfl⟩)), by rw [N1.out, Nat.add_zero], by rw [N1.out, Nat.add_zero], HB⟩
            case measure => decide
          · have hz' : ((n : Int) != 0) = true := by simpa using hz
            have b0 : ((⟨#[9]⟩ : ByteArray)[0]'(by decide)).toNat = 9 := rfl
            go_wp2_with (go_at_call 199; refine (CC.out).mono ?_; rintro e w' ⟨rfl, hw⟩; rw [hw])
            have e1 : IntKind.i64.wrap ((0 : Int) - 1) = -1 := by decide
            have e2 : IntKind.i64.wrap ((n : Int) * -1) = -(n : Int) := by rw [IntWalk.i64_in _ (by omega)]; omega
            have e3 : IntKind.i64.wrap ((s.size : Int) - (n0 : Int) + -(n : Int)) = (s.size : Int) - ((n0 + n : Nat) : Int) := by rw [IntWalk.i64_in _ (by omega)]; omega
            have hp : Hid (0 < n0 + n) := Lib.hid (by omega)
            clear hz
            go_quiet (fail)
            clear e1 e2 e3
            go_wp2_with fail
            go_roundw
            case rel => exact ⟨3, 3, rfl, .inr (.inr (.inr ⟨rfl, rfl⟩)), by rw [N1.out, Int.natCast_add], by rw [N1.out, decide_eq_true hp.out], Lib.hid (pw_below_drewN HB.out _)⟩
            case measure => decide
        · go_wp2_with fail
          go_meet
          case rel => exact ⟨by rw [outN_3], by rw [outN_3], HB⟩
    · have c24' : decide ((24 : Int) ≤ (s.size : Int)) = false := decide_eq_false (by omega)
      rw [c24']
      clear c24'
      go_wp2_with fail
      clear q256
      go_loop [5, 6, 10] (fun v5 v6 v10 => ∃ i : Nat, i ≤ s.size ∧ v10 = .int .i64 (i : Int) ∧ v5 = .int .i64 ((s.size : Int) - (cnt ((bs s).take i) : Int)) ∧ v6 = .bool (decide (0 < cnt ((bs s).take i)))) (fun _ _ v => s.size - (intOf v).toNat)
      case atStart => exact ⟨0, by omega, rfl, by simp [cnt], by simp [cnt]⟩
      case round =>
        obtain ⟨i, hi, rfl, rfl, rfl⟩ := hrel
        by_cases hlt : i < s.size
        · have hs1 := cnt_snoc ((bs s).take i) s[i]
          rw [← take_get hlt] at hs1
          have hle := cnt_le ((bs s).take i)
          rw [List.length_take, bs_len] at hle
          obtain ⟨n0, hn0⟩ : ∃ n, cnt ((bs s).take i) = n := ⟨_, rfl⟩
          rw [hn0] at hs1 hle ⊢
          have N1 := Lib.hid hs1
          have hlei : n0 ≤ i := by omega
          have hx : (s[i].toNat : Int) < 256 := by have := s[i].toNat_lt; omega
          have h1 := (HAT.out s[i]).1
          have h2 := (HAT.out s[i]).2
          clear hs1 hn0 hle
          by_cases hc : Web.tabbed s[i] = true
          · obtain ⟨A, cp, kb⟩ := h2 hc
            have HC := Lib.hid hc
            clear h1 h2 hc
            go_wp2_with fail
            go_round
            case rel => exact ⟨i + 1, by omega, by go_num, by rw [N1.out, if_pos HC.out, Int.natCast_add]; congr 1; omega, by rw [N1.out, if_pos HC.out, decide_eq_true (by omega)]⟩
            case measure => simp [intOf]; omega
          · have kb := h1 hc
            have HC := Lib.hid hc
            clear h1 h2 hc
            go_wp2_with fail
            go_round
            case rel => exact ⟨i + 1, by omega, by go_num, by rw [N1.out, if_neg HC.out, Nat.add_zero], by rw [N1.out, if_neg HC.out, Nat.add_zero]⟩
            case measure => simp [intOf]; omega
        · have he : i = s.size := by omega
          subst he
          have ht : (bs s).take s.size = bs s := by rw [← bs_len, List.take_length]
          rw [ht]
          clear ht
          go_wp2_with fail
          go_meet
          case rel => exact ⟨rfl, rfl, Lib.hid (Below.refl _ _)⟩
  case rest =>
    obtain ⟨rfl, rfl, HB⟩ := hcut
    clear q256
    by_cases z : cnt (bs s) = 0
    · have z' : decide (0 < cnt (bs s)) = false := decide_eq_false (by omega)
      rw [z']
      have R := Lib.hid (filter_all (bs s) z)
      clear z z'
      go_wp2_with fail
      go_ret
      exact ⟨s, rfl, Lib.hid R.out.symm, HB.out⟩
    · have z' : decide (0 < cnt (bs s)) = true := decide_eq_true (by omega)
      rw [z']
      have hfl := filter_len (bs s)
      rw [bs_len] at hfl
      obtain ⟨l, hl⟩ : ∃ l, (bs s).filter nt = l := ⟨_, rfl⟩
      rw [hl] at hfl
      have e : ((s.size : Int) - (cnt (bs s) : Int)) = ((l.length : Nat) : Int) := by omega
      rw [e]
      have hN : l.length ≤ 100000 := by omega
      have HL := Lib.hid hl
      clear z z' hfl e hl
      have hmk := make_bytes l.length hN
      have hle : ∀ i, (((bs s).take i).filter nt).length ≤ l.length := fun i => by rw [← HL.out]; exact filter_take_le _ _
      have HLE := Lib.hid hle
      clear hle
      go_wp2_with fail
      clear hmk
      have B1 := Lib.hid (below_alloc HB.out (.cells (madeCells #[.int .u8 0] l.length) 5))
      have R1 := Lib.hid (BufRow.start l wc)
      have hg : w.heap.size ≤ wc.heap.size := HB.out.size
      generalize wc.alloc (.cells (madeCells #[.int .u8 0] l.length) 5) = w1 at B1 R1 ⊢
      generalize wc.heap.size = g at R1 hg ⊢
      go_loopw [13, 14] (fun v13 v14 wr => ∃ i : Nat, i ≤ s.size ∧ v14 = .int .i64 (i : Int) ∧ v13 = .int .i64 (((((bs s).take i).filter nt).length : Nat) : Int) ∧ Hid (BufRow l g (((bs s).take i).filter nt).length wr) ∧ Hid (Below w.heap.size w wr)) (fun _ v _ => s.size - (intOf v).toNat)
      case atStart => exact ⟨0, by omega, rfl, rfl, R1, B1⟩
      case round =>
        obtain ⟨i, hi, rfl, rfl, R2, B2⟩ := hrel
        obtain ⟨wx, rfl⟩ : ∃ wo : World, wo = wr := ⟨_, rfl⟩
        by_cases hlt : i < s.size
        · have hs1 := filter_snoc ((bs s).take i) s[i]
          rw [← take_get hlt] at hs1
          have hj1 := HLE.out (i + 1)
          have hj0 := HLE.out i
          have PX := Lib.hid (show l = ((bs s).take (i + 1)).filter nt ++ ((bs s).drop (i + 1)).filter nt by rw [← List.filter_append, List.take_append_drop, HL.out])
          obtain ⟨j, hj⟩ : ∃ n, (((bs s).take i).filter nt).length = n := ⟨_, rfl⟩
          rw [hj] at R2 hj0 ⊢
          have hx : (s[i].toNat : Int) < 256 := by have := s[i].toNat_lt; omega
          have HX := HAT.out.below hB B2.out
          have h1 := (HX s[i]).1
          have h2 := (HX s[i]).2
          clear HX
          by_cases hc : Web.tabbed s[i] = true
          · rw [if_pos hc, List.append_nil] at hs1
            obtain ⟨A, cp, kb⟩ := h2 hc
            have HE := Lib.hid (show (((bs s).take (i + 1)).filter nt).length = j by rw [hs1, hj])
            have hce : ∀ d dLen dCap W, (Builtin.copy_ #[46, 46] 3 #[.slice d dLen dCap, .slice (some A) 0 cp]).run Tryz.prog W = .ok (goInt 0) W := fun d dLen dCap W => run_copy_none W 46 46 3 5 d (some A) dLen dCap 0 cp Tryz.underlying46 (by kernel_rfl) (by simp)
            clear h1 h2 hc hs1 hj hj1
            have e1 : IntKind.i64.wrap ((j : Int) + 0) = (j : Int) := by rw [IntWalk.i64_in _ (by omega)]; omega
            go_wp2_with fail
            go_quiet (fail)
            go_wp2_with fail
            go_roundw
            case rel => exact ⟨i + 1, by omega, by go_num, by rw [HE.out], by rw [HE.out]; exact R2, Lib.hid (pw_below_drewN B2.out _)⟩
            case measure => simp [intOf]; omega
          · rw [if_neg hc] at hs1
            have kb := h1 hc
            have HE := Lib.hid (show (((bs s).take (i + 1)).filter nt).length = j + 1 by rw [hs1, List.length_append, hj]; rfl)
            have hjl : j < l.length := by have := HE.out; omega
            have GE := Lib.hid (show l[j]? = some s[i] by
              rw [PX.out, hs1, List.append_assoc, ← hj, List.getElem?_append_right (Nat.le_refl _), Nat.sub_self]; rfl)
            obtain ⟨x, kc, kf, _⟩ := R2.out j hjl
            have R3 := Lib.hid (R2.out.put hjl s[i] GE.out)
            have B3 := Lib.hid (B2.out.setCell (p := ⟨g, j, none⟩) hg (.int .u8 (s[i].toNat : Int)))
            clear h1 h2 hc hs1 hj hj1
            go_wp2_with fail
            go_roundw
            case rel => exact ⟨i + 1, by omega, by go_num, by rw [HE.out]; go_num, by rw [HE.out]; exact R3, B3⟩
            case measure => simp [intOf]; omega
        · have he : i = s.size := by omega
          subst he
          have ht : ((bs s).take s.size).filter nt = l := by rw [← bs_len, List.take_length, HL.out]
          rw [ht] at R2 ⊢
          have hcv := string_of_reads (P := Tryz.prog) (src := 46) (dst := 9) (c := l.length) Tryz.underlying46 Tryz.underlying5 Tryz.underlying9 (R2.out.reads (by omega))
          rw [strOfNums_bytes] at hcv
          clear ht
          go_wp2_with fail
          go_ret
          exact ⟨_, rfl, Lib.hid HL.out.symm, B2.out⟩
end Go.Proofs.YtcmcopieagpppaaGreatDoor.P
namespace Go.Proofs.YtcmcopieagpppaaGreatDoor.P
open Go.RowKit Go.Proofs.YtcmcopieagpppaaGreatDoorW.PrintWords Go.Proofs.YtcmcopieagpppaaGreatDoorW.PrintLast Go.Proofs.YtcmcopieagpppaaGreatDoorW.PrintMore
set_option linter.unusedVariables false
set_option linter.unusedSimpArgs false
theorem method_replace (a : Addr) (w : World) : (method 360 193 (.pointer (some a)) "Replace").run Tryz.prog w = .ok (251, .pointer (some a)) w := by kernel_rfl
set_option maxRecDepth 100000 in
set_option maxHeartbeats 2000000 in
theorem replace_walk (g : Nat) (s : ByteArray) (w : World) (base : Nat) (h : RplNew w g base) (hs : s.size ≤ 100000) :
    Calls Tryz.prog 54 #[.pointer (some ⟨g, 0, none⟩), .string s] w fun e w' => ∃ r : ByteArray, e = .returned (.string r) ∧ Hid (bs r = (bs s).filter nt) ∧ Below g w w' := by
  obtain ⟨A, c, hblk, hR⟩ := h
  have D := Lib.hid (do_walk g w A c base hblk hR)
  have hlt := blk_lt hblk
  clear hblk hR
  have hmf : ∀ (fn : Fn) (first cap : Array Value) (w : World), (Instr.makeFunc fn first cap).run Tryz.prog w = .ok (.func fn first cap) w := fun _ _ _ _ => rfl
  have hm := method_replace
  go_enter Tryz.func54, Tryz.ntmps54
  go_wp2_with (go_at_call 86; refine (D.out).mono ?_; rintro e w1 ⟨rfl, B, hB, HG, HS, HL⟩; have HLL := Lib.hid HL; clear HL; have c3 := (blk_cell HG.out 3).trans rfl; have RB := Lib.hid (bsr_replace s w1 B w.heap.size HS.out hs))
  refine (RB.out).mono ?_
  rintro e w2 ⟨r, rfl, HR, hb⟩
  have HB2 := Lib.hid hb
  clear hb
  go_wp2_with fail
  go_ret
  exact ⟨r, rfl, HR, HLL.out.trans (HB2.out.mono (Nat.le_of_lt (blk_lt HG.out)))⟩
end Go.Proofs.YtcmcopieagpppaaGreatDoor.P
namespace Go.Proofs.YtcmcopieagpppaaGreatDoor.P
open Go.RowKit Go.Proofs.YtcmcopieagpppaaGreatDoorW.PrintWords Go.Proofs.YtcmcopieagpppaaGreatDoorW.PrintLast Go.Proofs.YtcmcopieagpppaaGreatDoorW.PrintMore
set_option linter.unusedVariables false
set_option linter.unusedSimpArgs false
def Tabs (w : World) : Prop := Lib.Utf8Tabs 0 1 w ∧ (∃ m, w.cell? ⟨2, 0, none⟩ = some (.int .i64 m)) ∧ 3 ≤ w.heap.size
theorem Tabs.below {w w1 : World} (h : Tabs w) (hb : Below w.heap.size w w1) : Tabs w1 := by
  obtain ⟨h1, ⟨m, h2⟩, h3⟩ := h
  exact ⟨Go.Proofs.Utf8Tabs_below h1 hb, ⟨m, (hb.cell (p := ⟨2, 0, none⟩) (by show 2 < w.heap.size; omega)).trans h2⟩, Nat.le_trans h3 hb.size⟩
theorem Tabs.maxLen {w : World} (h : Tabs w) : ∃ m, w.cell? ⟨2, 0, none⟩ = some (.int .i64 m) := h.2.1
set_option maxRecDepth 100000 in
theorem pct_utf8_c (s : ByteArray) (w : World) (hs : s.size ≤ 9223372036854775807) (hT : Lib.Utf8Tabs 0 1 w) :
    Calls Tryz.prog 50 #[.string s] w fun e w' => e = .returned (.bool (Lib.validD (bs s))) ∧ Below w.heap.size w w' := by
  have k := Lib.hid (Tryz.utf8_ValidString s w hs hT)
  clear hT
  go_enter Tryz.func50, Tryz.ntmps50
  go_wp2_with (go_at_call 83; refine (k.out).mono ?_; rintro e w1 ⟨rfl, hb⟩; have HB := Lib.hid hb; clear hb)
  go_ret
  exact ⟨rfl, HB.out⟩
theorem six_cells_new (w : World) (cs : Array Value) (h : cs = #[.string ⟨#[9]⟩, .string ⟨#[]⟩, .string ⟨#[10]⟩, .string ⟨#[]⟩, .string ⟨#[13]⟩, .string ⟨#[]⟩]) : Kd.C Kd.string (w.alloc (.cells cs 9)) (some ⟨w.heap.size, 0, none⟩) 6 six := by
  subst h
  exact (Kd.R_reads' (Kd.R_of_own (base := w.heap.size) (ok := fun _ => True) ⟨by simp [encs], .inr ⟨_, 6, _, rfl, by simp, heap_new _ _ _ rfl, Nat.le_refl _, by decide, by simp, rfl⟩⟩ (fun _ _ => trivial))).2.2
end Go.Proofs.YtcmcopieagpppaaGreatDoor.P
