/- A part of the proof of the statement Up: what is proved here of the program serves its last text; its conditions stand in the theorems. -/
import Derived.Test.YtcmcopieagpppaaGreatDoorKUp2
import Derived.Test.YtcmcopieagpppaaGreatDoorKUp3
import Derived.Laws.BitsAllLaws
import Derived.Lib.Hide
namespace Go.Proofs.YtcmcopieagpppaaGreatDoor.P
open Go.RowKit Go.Proofs.YtcmcopieagpppaaGreatDoorW.PrintWords Go.Proofs.YtcmcopieagpppaaGreatDoorW.PrintLast Go.Proofs.YtcmcopieagpppaaGreatDoorW.PrintMore
attribute [local go_sem] max2_int min2_int max_two min_two max_three min_three max_four min_four
set_option linter.unusedVariables false
set_option linter.unusedSimpArgs false
def parapetref9_numeric.f (k : Nat) (a0 : ByteArray) : Option (Bool) := (parapetref9_parts.f k a0).bind fun t170 => (if 0 ≤ (wrap64 ((t170.length : Int) - 1)) then (if (wrap64 ((t170.length : Int) - 1)) < (t170.length : Int) then ((parapetref9_digits.f (rdOf ByteArray.empty t170 (wrap64 ((t170.length : Int) - 1))) 10).bind fun t174 => (if t174 = true then (some true) else (if ((rdOf ByteArray.empty t170 (wrap64 ((t170.length : Int) - 1))).size : Int) ≥ 2 then (if 0 < ((rdOf ByteArray.empty t170 (wrap64 ((t170.length : Int) - 1))).size : Int) then (if (bt (rdOf ByteArray.empty t170 (wrap64 ((t170.length : Int) - 1))) 0) = 48 then (if 1 < ((rdOf ByteArray.empty t170 (wrap64 ((t170.length : Int) - 1))).size : Int) then (if (bt (rdOf ByteArray.empty t170 (wrap64 ((t170.length : Int) - 1))) 1) = 120 then (if ((rdOf ByteArray.empty t170 (wrap64 ((t170.length : Int) - 1))).size : Int) = 2 then (some true) else (if 2 ≤ ((rdOf ByteArray.empty t170 (wrap64 ((t170.length : Int) - 1))).size : Int) then ((parapetref9_digits.f ((rdOf ByteArray.empty t170 (wrap64 ((t170.length : Int) - 1))).extract 2 (rdOf ByteArray.empty t170 (wrap64 ((t170.length : Int) - 1))).size) 16).bind fun t175 => (some t175)) else (none))) else (if (bt (rdOf ByteArray.empty t170 (wrap64 ((t170.length : Int) - 1))) 1) = 88 then (if ((rdOf ByteArray.empty t170 (wrap64 ((t170.length : Int) - 1))).size : Int) = 2 then (some true) else (if 2 ≤ ((rdOf ByteArray.empty t170 (wrap64 ((t170.length : Int) - 1))).size : Int) then ((parapetref9_digits.f ((rdOf ByteArray.empty t170 (wrap64 ((t170.length : Int) - 1))).extract 2 (rdOf ByteArray.empty t170 (wrap64 ((t170.length : Int) - 1))).size) 16).bind fun t176 => (some t176)) else (none))) else (some false))) else (none)) else (some false)) else (none)) else (some false)))) else (none)) else (none))
set_option maxHeartbeats 8000000 in
set_option maxRecDepth 100000 in
theorem parapetref9_numeric.calls (k : Nat) (a0 : ByteArray) (r : Bool) (w : World) (h : parapetref9_numeric.f k a0 = some r) :
    Calls Tryz.prog 138 #[.string a0] w fun e w' => e = .returned (.bool r) ∧ Below w.heap.size w w' := by
  have HB := Aside0.mk (Below.refl w.heap.size w)
  have H : ((parapetref9_parts.f k a0).bind fun t170 => (if 0 ≤ (wrap64 ((t170.length : Int) - 1)) then (if (wrap64 ((t170.length : Int) - 1)) < (t170.length : Int) then ((parapetref9_digits.f (rdOf ByteArray.empty t170 (wrap64 ((t170.length : Int) - 1))) 10).bind fun t174 => (if t174 = true then (some true) else (if ((rdOf ByteArray.empty t170 (wrap64 ((t170.length : Int) - 1))).size : Int) ≥ 2 then (if 0 < ((rdOf ByteArray.empty t170 (wrap64 ((t170.length : Int) - 1))).size : Int) then (if (bt (rdOf ByteArray.empty t170 (wrap64 ((t170.length : Int) - 1))) 0) = 48 then (if 1 < ((rdOf ByteArray.empty t170 (wrap64 ((t170.length : Int) - 1))).size : Int) then (if (bt (rdOf ByteArray.empty t170 (wrap64 ((t170.length : Int) - 1))) 1) = 120 then (if ((rdOf ByteArray.empty t170 (wrap64 ((t170.length : Int) - 1))).size : Int) = 2 then (some true) else (if 2 ≤ ((rdOf ByteArray.empty t170 (wrap64 ((t170.length : Int) - 1))).size : Int) then ((parapetref9_digits.f ((rdOf ByteArray.empty t170 (wrap64 ((t170.length : Int) - 1))).extract 2 (rdOf ByteArray.empty t170 (wrap64 ((t170.length : Int) - 1))).size) 16).bind fun t175 => (some t175)) else (none))) else (if (bt (rdOf ByteArray.empty t170 (wrap64 ((t170.length : Int) - 1))) 1) = 88 then (if ((rdOf ByteArray.empty t170 (wrap64 ((t170.length : Int) - 1))).size : Int) = 2 then (some true) else (if 2 ≤ ((rdOf ByteArray.empty t170 (wrap64 ((t170.length : Int) - 1))).size : Int) then ((parapetref9_digits.f ((rdOf ByteArray.empty t170 (wrap64 ((t170.length : Int) - 1))).extract 2 (rdOf ByteArray.empty t170 (wrap64 ((t170.length : Int) - 1))).size) 16).bind fun t176 => (some t176)) else (none))) else (some false))) else (none)) else (some false)) else (none)) else (some false)))) else (none)) else (none))) = some r := h
  clear h
  replace H := Option.bind_eq_some_iff.mp H
  obtain ⟨t170, A20, H⟩ := H
  replace H : (if 0 ≤ (wrap64 ((t170.length : Int) - 1)) then (if (wrap64 ((t170.length : Int) - 1)) < (t170.length : Int) then ((parapetref9_digits.f (rdOf ByteArray.empty t170 (wrap64 ((t170.length : Int) - 1))) 10).bind fun t174 => (if t174 = true then (some true) else (if ((rdOf ByteArray.empty t170 (wrap64 ((t170.length : Int) - 1))).size : Int) ≥ 2 then (if 0 < ((rdOf ByteArray.empty t170 (wrap64 ((t170.length : Int) - 1))).size : Int) then (if (bt (rdOf ByteArray.empty t170 (wrap64 ((t170.length : Int) - 1))) 0) = 48 then (if 1 < ((rdOf ByteArray.empty t170 (wrap64 ((t170.length : Int) - 1))).size : Int) then (if (bt (rdOf ByteArray.empty t170 (wrap64 ((t170.length : Int) - 1))) 1) = 120 then (if ((rdOf ByteArray.empty t170 (wrap64 ((t170.length : Int) - 1))).size : Int) = 2 then (some true) else (if 2 ≤ ((rdOf ByteArray.empty t170 (wrap64 ((t170.length : Int) - 1))).size : Int) then ((parapetref9_digits.f ((rdOf ByteArray.empty t170 (wrap64 ((t170.length : Int) - 1))).extract 2 (rdOf ByteArray.empty t170 (wrap64 ((t170.length : Int) - 1))).size) 16).bind fun t175 => (some t175)) else (none))) else (if (bt (rdOf ByteArray.empty t170 (wrap64 ((t170.length : Int) - 1))) 1) = 88 then (if ((rdOf ByteArray.empty t170 (wrap64 ((t170.length : Int) - 1))).size : Int) = 2 then (some true) else (if 2 ≤ ((rdOf ByteArray.empty t170 (wrap64 ((t170.length : Int) - 1))).size : Int) then ((parapetref9_digits.f ((rdOf ByteArray.empty t170 (wrap64 ((t170.length : Int) - 1))).extract 2 (rdOf ByteArray.empty t170 (wrap64 ((t170.length : Int) - 1))).size) 16).bind fun t176 => (some t176)) else (none))) else (some false))) else (none)) else (some false)) else (none)) else (some false)))) else (none)) else (none)) = some r := H
  have A2 := Aside0.mk A20
  clear A20
  obtain ⟨ji3, hji3⟩ : ∃ j_ : Int, (wrap64 ((t170.length : Int) - 1)) = j_ := ⟨_, rfl⟩
  replace H : (if 0 ≤ (ji3) then (if (ji3) < (t170.length : Int) then ((parapetref9_digits.f (rdOf ByteArray.empty t170 (ji3)) 10).bind fun t174 => (if t174 = true then (some true) else (if ((rdOf ByteArray.empty t170 (ji3)).size : Int) ≥ 2 then (if 0 < ((rdOf ByteArray.empty t170 (ji3)).size : Int) then (if (bt (rdOf ByteArray.empty t170 (ji3)) 0) = 48 then (if 1 < ((rdOf ByteArray.empty t170 (ji3)).size : Int) then (if (bt (rdOf ByteArray.empty t170 (ji3)) 1) = 120 then (if ((rdOf ByteArray.empty t170 (ji3)).size : Int) = 2 then (some true) else (if 2 ≤ ((rdOf ByteArray.empty t170 (ji3)).size : Int) then ((parapetref9_digits.f ((rdOf ByteArray.empty t170 (ji3)).extract 2 (rdOf ByteArray.empty t170 (ji3)).size) 16).bind fun t175 => (some t175)) else (none))) else (if (bt (rdOf ByteArray.empty t170 (ji3)) 1) = 88 then (if ((rdOf ByteArray.empty t170 (ji3)).size : Int) = 2 then (some true) else (if 2 ≤ ((rdOf ByteArray.empty t170 (ji3)).size : Int) then ((parapetref9_digits.f ((rdOf ByteArray.empty t170 (ji3)).extract 2 (rdOf ByteArray.empty t170 (ji3)).size) 16).bind fun t176 => (some t176)) else (none))) else (some false))) else (none)) else (some false)) else (none)) else (some false)))) else (none)) else (none)) = some r := by first | (rw [hji3] at H; exact H) | (simp only [hji3] at H ⊢; exact H)
  (try rw [hji3] at A2)
  have hji3w : (IntKind.i64.wrap ((t170.length : Int) - 1)) = ji3 := (i64_w _).trans hji3
  by_cases c4 : 0 ≤ (ji3)
  · rw [if_pos c4] at H
    have c4b0 : decide (0 ≤ (ji3)) = true := decide_eq_true c4
    clear c4
    by_cases c5 : (ji3) < (t170.length : Int)
    · rw [if_pos c5] at H
      have c5b0 : decide ((ji3) < (t170.length : Int)) = true := decide_eq_true c5
      clear c5
      replace H := Option.bind_eq_some_iff.mp H
      obtain ⟨t174, A60, H⟩ := H
      replace H : (if t174 = true then (some true) else (if ((rdOf ByteArray.empty t170 (ji3)).size : Int) ≥ 2 then (if 0 < ((rdOf ByteArray.empty t170 (ji3)).size : Int) then (if (bt (rdOf ByteArray.empty t170 (ji3)) 0) = 48 then (if 1 < ((rdOf ByteArray.empty t170 (ji3)).size : Int) then (if (bt (rdOf ByteArray.empty t170 (ji3)) 1) = 120 then (if ((rdOf ByteArray.empty t170 (ji3)).size : Int) = 2 then (some true) else (if 2 ≤ ((rdOf ByteArray.empty t170 (ji3)).size : Int) then ((parapetref9_digits.f ((rdOf ByteArray.empty t170 (ji3)).extract 2 (rdOf ByteArray.empty t170 (ji3)).size) 16).bind fun t175 => (some t175)) else (none))) else (if (bt (rdOf ByteArray.empty t170 (ji3)) 1) = 88 then (if ((rdOf ByteArray.empty t170 (ji3)).size : Int) = 2 then (some true) else (if 2 ≤ ((rdOf ByteArray.empty t170 (ji3)).size : Int) then ((parapetref9_digits.f ((rdOf ByteArray.empty t170 (ji3)).extract 2 (rdOf ByteArray.empty t170 (ji3)).size) 16).bind fun t176 => (some t176)) else (none))) else (some false))) else (none)) else (some false)) else (none)) else (some false))) = some r := H
      have A6 := Aside0.mk A60
      clear A60
      by_cases c7 : t174 = true
      · subst c7
        have H1 : (some true) = some r := by rw [if_pos rfl] at H; exact H
        clear H
        have H := H1
        clear H1
        obtain rfl := Option.some.inj H
        go_enter Tryz.func138, Tryz.ntmps138
        go_wp2_with (first | ((with_reducible refine gate_callee (f := 142) rfl ?_); refine goesL_ (some 6) rfl rfl Tryz.func142 (by kernel_rfl) rfl #[.string a0] rfl (by (try simp only [List.map_toArray, List.map_cons, List.map_nil]); first | done | rfl | (simp only [List.length_drop, List.length_take]; rfl)) ?_; (with_reducible refine (parapetref9_parts.calls k a0 t170 _ A2.out).mono ?_); rintro e w8 ⟨v171, rfl, ho0, hb⟩; refine ⟨_, rfl, ?_⟩; have n0_ := Aside0.mk (Kd.R_lower ho0 (below_size (by repeat (first | (with_reducible first | exact HB.out | apply below_alloc | apply pw_below_drewN | apply below_drew1) | exact HB.out)))); have n1_ := Aside0.mk (below_step (by repeat (first | (with_reducible first | exact HB.out | apply below_alloc | apply pw_below_drewN | apply below_drew1) | exact HB.out)) hb); clear HB; have HO172 := n0_; have HB := n1_; clear n0_ n1_; (try clear hb); (try clear hb2); (try clear hk); (try clear hi); (try clear ho0); obtain ⟨Ao9, co9, eo9⟩ := Kd.R_slice HO172.out; subst eo9; have p173 : 0 ≤ ((ji3) : Int) := of_decide_eq_true (by first | (with_reducible assumption) | assumption); have q173 : (ji3) < (t170.length : Int) := of_decide_eq_true (by first | (with_reducible assumption) | assumption); obtain ⟨ad173, e173, hx173_0⟩ := Kd.at_string (Kd.R_reads' HO172.out).2.2 (ji3) p173 q173; cases e173; replace p173 := eq_true p173; replace q173 := eq_true q173) | ((with_reducible refine gate_callee (f := 100) rfl ?_); refine goesL_ (some 14) rfl rfl Tryz.func100 (by kernel_rfl) rfl #[.string (rdOf ByteArray.empty t170 (ji3)), .int .i64 10] rfl (by (try simp only [List.map_toArray, List.map_cons, List.map_nil]); first | done | (simp only [hji3]; rfl) | rfl | (simp only [List.length_drop, List.length_take]; rfl)) ?_; (with_reducible refine (parapetref9_digits.calls (rdOf ByteArray.empty t170 (ji3)) 10 true _ A6.out).mono ?_); rintro e w' ⟨rfl, ⟨nd, rfl⟩⟩; refine ⟨_, rfl, ?_⟩))
        go_ret
        exact ⟨by first | rfl | (simp [errW_none, errW_some] <;> rfl) | (simp only [← hji3]; first | rfl | (simp [errW_none, errW_some] <;> rfl)) | (simp [*, errW_none, errW_some] <;> rfl), by repeat (first | (with_reducible first | exact HB.out | apply below_alloc | apply pw_below_drewN | apply below_drew1) | exact HB.out)⟩
      · replace c7 := Bool.eq_false_iff.mpr c7
        subst c7
        have H1 : (if ((rdOf ByteArray.empty t170 (ji3)).size : Int) ≥ 2 then (if 0 < ((rdOf ByteArray.empty t170 (ji3)).size : Int) then (if (bt (rdOf ByteArray.empty t170 (ji3)) 0) = 48 then (if 1 < ((rdOf ByteArray.empty t170 (ji3)).size : Int) then (if (bt (rdOf ByteArray.empty t170 (ji3)) 1) = 120 then (if ((rdOf ByteArray.empty t170 (ji3)).size : Int) = 2 then (some true) else (if 2 ≤ ((rdOf ByteArray.empty t170 (ji3)).size : Int) then ((parapetref9_digits.f ((rdOf ByteArray.empty t170 (ji3)).extract 2 (rdOf ByteArray.empty t170 (ji3)).size) 16).bind fun t175 => (some t175)) else (none))) else (if (bt (rdOf ByteArray.empty t170 (ji3)) 1) = 88 then (if ((rdOf ByteArray.empty t170 (ji3)).size : Int) = 2 then (some true) else (if 2 ≤ ((rdOf ByteArray.empty t170 (ji3)).size : Int) then ((parapetref9_digits.f ((rdOf ByteArray.empty t170 (ji3)).extract 2 (rdOf ByteArray.empty t170 (ji3)).size) 16).bind fun t176 => (some t176)) else (none))) else (some false))) else (none)) else (some false)) else (none)) else (some false)) = some r := by rw [if_neg (show ¬ (false = true) by decide)] at H; exact H
        clear H
        have H := H1
        clear H1
        by_cases c10 : ((rdOf ByteArray.empty t170 (ji3)).size : Int) ≥ 2
        · rw [if_pos c10] at H
          have c10b0 : decide (2 ≤ ((rdOf ByteArray.empty t170 (ji3)).size : Int)) = true := decide_eq_true c10
          have c10b1 : decide (2 ≤ (rdOf ByteArray.empty t170 (ji3)).size) = true := decide_eq_true (by omega)
          clear c10
          by_cases c11 : 0 < ((rdOf ByteArray.empty t170 (ji3)).size : Int)
          · rw [if_pos c11] at H
            have c11b0 : decide (0 < ((rdOf ByteArray.empty t170 (ji3)).size : Int)) = true := decide_eq_true c11
            have c11b1 : decide (0 < (rdOf ByteArray.empty t170 (ji3)).size) = true := decide_eq_true (by omega)
            clear c11
            by_cases c13 : (bt (rdOf ByteArray.empty t170 (ji3)) 0) = 48
            · rw [if_pos c13] at H
              have c13b0 : ((bt (rdOf ByteArray.empty t170 (ji3)) 0) == 48) = true := beq_iff_eq.mpr c13
              have c13b1 : ((bt (rdOf ByteArray.empty t170 (ji3)) 0) != 48) = false := bne_eq_false_iff_eq.mpr c13
              clear c13
              by_cases c14 : 1 < ((rdOf ByteArray.empty t170 (ji3)).size : Int)
              · rw [if_pos c14] at H
                have c14b0 : decide (1 < ((rdOf ByteArray.empty t170 (ji3)).size : Int)) = true := decide_eq_true c14
                have c14b1 : decide (1 < (rdOf ByteArray.empty t170 (ji3)).size) = true := decide_eq_true (by omega)
                clear c14
                by_cases c16 : (bt (rdOf ByteArray.empty t170 (ji3)) 1) = 120
                · rw [if_pos c16] at H
                  have c16b0 : ((bt (rdOf ByteArray.empty t170 (ji3)) 1) == 120) = true := beq_iff_eq.mpr c16
                  have c16b1 : ((bt (rdOf ByteArray.empty t170 (ji3)) 1) != 120) = false := bne_eq_false_iff_eq.mpr c16
                  clear c16
                  by_cases c17 : ((rdOf ByteArray.empty t170 (ji3)).size : Int) = 2
                  · rw [if_pos c17] at H
                    have c17b0 : (((rdOf ByteArray.empty t170 (ji3)).size : Int) == 2) = true := beq_iff_eq.mpr c17
                    have c17b1 : (((rdOf ByteArray.empty t170 (ji3)).size : Int) != 2) = false := bne_eq_false_iff_eq.mpr c17
                    clear c17
                    obtain rfl := Option.some.inj H
                    go_enter Tryz.func138, Tryz.ntmps138
                    go_wp2_with (first | ((with_reducible refine gate_callee (f := 142) rfl ?_); refine goesL_ (some 6) rfl rfl Tryz.func142 (by kernel_rfl) rfl #[.string a0] rfl (by (try simp only [List.map_toArray, List.map_cons, List.map_nil]); first | done | rfl | (simp only [List.length_drop, List.length_take]; rfl)) ?_; (with_reducible refine (parapetref9_parts.calls k a0 t170 _ A2.out).mono ?_); rintro e w18 ⟨v171, rfl, ho0, hb⟩; refine ⟨_, rfl, ?_⟩; have n0_ := Aside0.mk (Kd.R_lower ho0 (below_size (by repeat (first | (with_reducible first | exact HB.out | apply below_alloc | apply pw_below_drewN | apply below_drew1) | exact HB.out)))); have n1_ := Aside0.mk (below_step (by repeat (first | (with_reducible first | exact HB.out | apply below_alloc | apply pw_below_drewN | apply below_drew1) | exact HB.out)) hb); clear HB; have HO172 := n0_; have HB := n1_; clear n0_ n1_; (try clear hb); (try clear hb2); (try clear hk); (try clear hi); (try clear ho0); obtain ⟨Ao19, co19, eo19⟩ := Kd.R_slice HO172.out; subst eo19; have p173 : 0 ≤ ((ji3) : Int) := of_decide_eq_true (by first | (with_reducible assumption) | assumption); have q173 : (ji3) < (t170.length : Int) := of_decide_eq_true (by first | (with_reducible assumption) | assumption); obtain ⟨ad173, e173, hx173_0⟩ := Kd.at_string (Kd.R_reads' HO172.out).2.2 (ji3) p173 q173; cases e173; replace p173 := eq_true p173; replace q173 := eq_true q173) | ((with_reducible refine gate_callee (f := 100) rfl ?_); refine goesL_ (some 14) rfl rfl Tryz.func100 (by kernel_rfl) rfl #[.string (rdOf ByteArray.empty t170 (ji3)), .int .i64 10] rfl (by (try simp only [List.map_toArray, List.map_cons, List.map_nil]); first | done | (simp only [hji3]; rfl) | rfl | (simp only [List.length_drop, List.length_take]; rfl)) ?_; (with_reducible refine (parapetref9_digits.calls (rdOf ByteArray.empty t170 (ji3)) 10 false _ A6.out).mono ?_); rintro e w' ⟨rfl, ⟨nd, rfl⟩⟩; refine ⟨_, rfl, ?_⟩; have p12 : 0 ≤ (0 : Int) := (by omega); have q12 : 0 < (rdOf ByteArray.empty t170 (ji3)).size := (by have : (0 : Int) < ((rdOf ByteArray.empty t170 (ji3)).size : Int) := of_decide_eq_true (by first | (with_reducible assumption) | assumption); omega); have hx12 : ∀ h : 0 < (rdOf ByteArray.empty t170 (ji3)).size, (((rdOf ByteArray.empty t170 (ji3))[0]'h).toNat : Int) = bt (rdOf ByteArray.empty t170 (ji3)) 0 := bt_at (rdOf ByteArray.empty t170 (ji3)) 0; clear p12; have qi12 : (0 < ((rdOf ByteArray.empty t170 (ji3)).size : Int)) = True := eq_true (of_decide_eq_true (by first | (with_reducible assumption) | assumption)); replace q12 := eq_true q12; have p15 : 0 ≤ (1 : Int) := (by omega); have q15 : 1 < (rdOf ByteArray.empty t170 (ji3)).size := (by have : (1 : Int) < ((rdOf ByteArray.empty t170 (ji3)).size : Int) := of_decide_eq_true (by first | (with_reducible assumption) | assumption); omega); have hx15 : ∀ h : 1 < (rdOf ByteArray.empty t170 (ji3)).size, (((rdOf ByteArray.empty t170 (ji3))[1]'h).toNat : Int) = bt (rdOf ByteArray.empty t170 (ji3)) 1 := bt_at (rdOf ByteArray.empty t170 (ji3)) 1; clear p15; have qi15 : (1 < ((rdOf ByteArray.empty t170 (ji3)).size : Int)) = True := eq_true (of_decide_eq_true (by first | (with_reducible assumption) | assumption)); replace q15 := eq_true q15))
                    go_ret
                    exact ⟨by first | rfl | (simp [errW_none, errW_some] <;> rfl) | (simp only [← hji3]; first | rfl | (simp [errW_none, errW_some] <;> rfl)) | (simp [*, errW_none, errW_some] <;> rfl), by repeat (first | (with_reducible first | exact HB.out | apply below_alloc | apply pw_below_drewN | apply below_drew1) | exact HB.out)⟩
                  · rw [if_neg c17] at H
                    have c17b0 : (((rdOf ByteArray.empty t170 (ji3)).size : Int) == 2) = false := beq_eq_false_iff_ne.mpr c17
                    have c17b1 : (((rdOf ByteArray.empty t170 (ji3)).size : Int) != 2) = true := bne_iff_ne.mpr c17
                    by_cases c20 : 2 ≤ ((rdOf ByteArray.empty t170 (ji3)).size : Int)
                    · rw [if_pos c20] at H
                      have c20b0 := eq_true c20
                      have c20b1 : decide (2 ≤ ((rdOf ByteArray.empty t170 (ji3)).size : Int)) = true := decide_eq_true c20
                      clear c20
                      replace H := Option.bind_eq_some_iff.mp H
                      obtain ⟨t175, A210, H⟩ := H
                      replace H : (some t175) = some r := H
                      have A21 := Aside0.mk A210
                      clear A210
                      obtain rfl := Option.some.inj H
                      go_enter Tryz.func138, Tryz.ntmps138
                      go_wp2_with (first | ((with_reducible refine gate_callee (f := 142) rfl ?_); refine goesL_ (some 6) rfl rfl Tryz.func142 (by kernel_rfl) rfl #[.string a0] rfl (by (try simp only [List.map_toArray, List.map_cons, List.map_nil]); first | done | rfl | (simp only [List.length_drop, List.length_take]; rfl)) ?_; (with_reducible refine (parapetref9_parts.calls k a0 t170 _ A2.out).mono ?_); rintro e w22 ⟨v171, rfl, ho0, hb⟩; refine ⟨_, rfl, ?_⟩; have n0_ := Aside0.mk (Kd.R_lower ho0 (below_size (by repeat (first | (with_reducible first | exact HB.out | apply below_alloc | apply pw_below_drewN | apply below_drew1) | exact HB.out)))); have n1_ := Aside0.mk (below_step (by repeat (first | (with_reducible first | exact HB.out | apply below_alloc | apply pw_below_drewN | apply below_drew1) | exact HB.out)) hb); clear HB; have HO172 := n0_; have HB := n1_; clear n0_ n1_; (try clear hb); (try clear hb2); (try clear hk); (try clear hi); (try clear ho0); obtain ⟨Ao23, co23, eo23⟩ := Kd.R_slice HO172.out; subst eo23; have p173 : 0 ≤ ((ji3) : Int) := of_decide_eq_true (by first | (with_reducible assumption) | assumption); have q173 : (ji3) < (t170.length : Int) := of_decide_eq_true (by first | (with_reducible assumption) | assumption); obtain ⟨ad173, e173, hx173_0⟩ := Kd.at_string (Kd.R_reads' HO172.out).2.2 (ji3) p173 q173; cases e173; replace p173 := eq_true p173; replace q173 := eq_true q173) | ((with_reducible refine gate_callee (f := 100) rfl ?_); refine goesL_ (some 14) rfl rfl Tryz.func100 (by kernel_rfl) rfl #[.string (rdOf ByteArray.empty t170 (ji3)), .int .i64 10] rfl (by (try simp only [List.map_toArray, List.map_cons, List.map_nil]); first | done | (simp only [hji3]; rfl) | rfl | (simp only [List.length_drop, List.length_take]; rfl)) ?_; (with_reducible refine (parapetref9_digits.calls (rdOf ByteArray.empty t170 (ji3)) 10 false _ A6.out).mono ?_); rintro e w' ⟨rfl, ⟨nd, rfl⟩⟩; refine ⟨_, rfl, ?_⟩; have p12 : 0 ≤ (0 : Int) := (by omega); have q12 : 0 < (rdOf ByteArray.empty t170 (ji3)).size := (by have : (0 : Int) < ((rdOf ByteArray.empty t170 (ji3)).size : Int) := of_decide_eq_true (by first | (with_reducible assumption) | assumption); omega); have hx12 : ∀ h : 0 < (rdOf ByteArray.empty t170 (ji3)).size, (((rdOf ByteArray.empty t170 (ji3))[0]'h).toNat : Int) = bt (rdOf ByteArray.empty t170 (ji3)) 0 := bt_at (rdOf ByteArray.empty t170 (ji3)) 0; clear p12; have qi12 : (0 < ((rdOf ByteArray.empty t170 (ji3)).size : Int)) = True := eq_true (of_decide_eq_true (by first | (with_reducible assumption) | assumption)); replace q12 := eq_true q12; have p15 : 0 ≤ (1 : Int) := (by omega); have q15 : 1 < (rdOf ByteArray.empty t170 (ji3)).size := (by have : (1 : Int) < ((rdOf ByteArray.empty t170 (ji3)).size : Int) := of_decide_eq_true (by first | (with_reducible assumption) | assumption); omega); have hx15 : ∀ h : 1 < (rdOf ByteArray.empty t170 (ji3)).size, (((rdOf ByteArray.empty t170 (ji3))[1]'h).toNat : Int) = bt (rdOf ByteArray.empty t170 (ji3)) 1 := bt_at (rdOf ByteArray.empty t170 (ji3)) 1; clear p15; have qi15 : (1 < ((rdOf ByteArray.empty t170 (ji3)).size : Int)) = True := eq_true (of_decide_eq_true (by first | (with_reducible assumption) | assumption)); replace q15 := eq_true q15) | (go_at_call 100; (with_reducible refine (parapetref9_digits.calls ((rdOf ByteArray.empty t170 (ji3)).extract 2 (rdOf ByteArray.empty t170 (ji3)).size) 16 t175 _ A21.out).mono ?_); rintro e w' ⟨rfl, ⟨nd, rfl⟩⟩))
                      go_ret
                      exact ⟨by first | rfl | (simp [errW_none, errW_some] <;> rfl) | (simp only [← hji3]; first | rfl | (simp [errW_none, errW_some] <;> rfl)) | (simp [*, errW_none, errW_some] <;> rfl), by repeat (first | (with_reducible first | exact HB.out | apply below_alloc | apply pw_below_drewN | apply below_drew1) | exact HB.out)⟩
                    · rw [if_neg c20] at H
                      exact absurd H (by simp)
                · rw [if_neg c16] at H
                  have c16b0 : ((bt (rdOf ByteArray.empty t170 (ji3)) 1) == 120) = false := beq_eq_false_iff_ne.mpr c16
                  have c16b1 : ((bt (rdOf ByteArray.empty t170 (ji3)) 1) != 120) = true := bne_iff_ne.mpr c16
                  by_cases c25 : (bt (rdOf ByteArray.empty t170 (ji3)) 1) = 88
                  · rw [if_pos c25] at H
                    have c25b0 : ((bt (rdOf ByteArray.empty t170 (ji3)) 1) == 88) = true := beq_iff_eq.mpr c25
                    have c25b1 : ((bt (rdOf ByteArray.empty t170 (ji3)) 1) != 88) = false := bne_eq_false_iff_eq.mpr c25
                    clear c25
                    by_cases c26 : ((rdOf ByteArray.empty t170 (ji3)).size : Int) = 2
                    · rw [if_pos c26] at H
                      have c26b0 : (((rdOf ByteArray.empty t170 (ji3)).size : Int) == 2) = true := beq_iff_eq.mpr c26
                      have c26b1 : (((rdOf ByteArray.empty t170 (ji3)).size : Int) != 2) = false := bne_eq_false_iff_eq.mpr c26
                      clear c26
                      obtain rfl := Option.some.inj H
                      go_enter Tryz.func138, Tryz.ntmps138
                      go_wp2_with (first | ((with_reducible refine gate_callee (f := 142) rfl ?_); refine goesL_ (some 6) rfl rfl Tryz.func142 (by kernel_rfl) rfl #[.string a0] rfl (by (try simp only [List.map_toArray, List.map_cons, List.map_nil]); first | done | rfl | (simp only [List.length_drop, List.length_take]; rfl)) ?_; (with_reducible refine (parapetref9_parts.calls k a0 t170 _ A2.out).mono ?_); rintro e w27 ⟨v171, rfl, ho0, hb⟩; refine ⟨_, rfl, ?_⟩; have n0_ := Aside0.mk (Kd.R_lower ho0 (below_size (by repeat (first | (with_reducible first | exact HB.out | apply below_alloc | apply pw_below_drewN | apply below_drew1) | exact HB.out)))); have n1_ := Aside0.mk (below_step (by repeat (first | (with_reducible first | exact HB.out | apply below_alloc | apply pw_below_drewN | apply below_drew1) | exact HB.out)) hb); clear HB; have HO172 := n0_; have HB := n1_; clear n0_ n1_; (try clear hb); (try clear hb2); (try clear hk); (try clear hi); (try clear ho0); obtain ⟨Ao28, co28, eo28⟩ := Kd.R_slice HO172.out; subst eo28; have p173 : 0 ≤ ((ji3) : Int) := of_decide_eq_true (by first | (with_reducible assumption) | assumption); have q173 : (ji3) < (t170.length : Int) := of_decide_eq_true (by first | (with_reducible assumption) | assumption); obtain ⟨ad173, e173, hx173_0⟩ := Kd.at_string (Kd.R_reads' HO172.out).2.2 (ji3) p173 q173; cases e173; replace p173 := eq_true p173; replace q173 := eq_true q173) | ((with_reducible refine gate_callee (f := 100) rfl ?_); refine goesL_ (some 14) rfl rfl Tryz.func100 (by kernel_rfl) rfl #[.string (rdOf ByteArray.empty t170 (ji3)), .int .i64 10] rfl (by (try simp only [List.map_toArray, List.map_cons, List.map_nil]); first | done | (simp only [hji3]; rfl) | rfl | (simp only [List.length_drop, List.length_take]; rfl)) ?_; (with_reducible refine (parapetref9_digits.calls (rdOf ByteArray.empty t170 (ji3)) 10 false _ A6.out).mono ?_); rintro e w' ⟨rfl, ⟨nd, rfl⟩⟩; refine ⟨_, rfl, ?_⟩; have p12 : 0 ≤ (0 : Int) := (by omega); have q12 : 0 < (rdOf ByteArray.empty t170 (ji3)).size := (by have : (0 : Int) < ((rdOf ByteArray.empty t170 (ji3)).size : Int) := of_decide_eq_true (by first | (with_reducible assumption) | assumption); omega); have hx12 : ∀ h : 0 < (rdOf ByteArray.empty t170 (ji3)).size, (((rdOf ByteArray.empty t170 (ji3))[0]'h).toNat : Int) = bt (rdOf ByteArray.empty t170 (ji3)) 0 := bt_at (rdOf ByteArray.empty t170 (ji3)) 0; clear p12; have qi12 : (0 < ((rdOf ByteArray.empty t170 (ji3)).size : Int)) = True := eq_true (of_decide_eq_true (by first | (with_reducible assumption) | assumption)); replace q12 := eq_true q12; have p15 : 0 ≤ (1 : Int) := (by omega); have q15 : 1 < (rdOf ByteArray.empty t170 (ji3)).size := (by have : (1 : Int) < ((rdOf ByteArray.empty t170 (ji3)).size : Int) := of_decide_eq_true (by first | (with_reducible assumption) | assumption); omega); have hx15 : ∀ h : 1 < (rdOf ByteArray.empty t170 (ji3)).size, (((rdOf ByteArray.empty t170 (ji3))[1]'h).toNat : Int) = bt (rdOf ByteArray.empty t170 (ji3)) 1 := bt_at (rdOf ByteArray.empty t170 (ji3)) 1; clear p15; have qi15 : (1 < ((rdOf ByteArray.empty t170 (ji3)).size : Int)) = True := eq_true (of_decide_eq_true (by first | (with_reducible assumption) | assumption)); replace q15 := eq_true q15; have p24 : 0 ≤ (1 : Int) := (by omega); have q24 : 1 < (rdOf ByteArray.empty t170 (ji3)).size := (by have : (1 : Int) < ((rdOf ByteArray.empty t170 (ji3)).size : Int) := of_decide_eq_true (by first | (with_reducible assumption) | assumption); omega); have hx24 : ∀ h : 1 < (rdOf ByteArray.empty t170 (ji3)).size, (((rdOf ByteArray.empty t170 (ji3))[1]'h).toNat : Int) = bt (rdOf ByteArray.empty t170 (ji3)) 1 := bt_at (rdOf ByteArray.empty t170 (ji3)) 1; clear p24; have qi24 : (1 < ((rdOf ByteArray.empty t170 (ji3)).size : Int)) = True := eq_true (of_decide_eq_true (by first | (with_reducible assumption) | assumption)); replace q24 := eq_true q24))
                      go_ret
                      exact ⟨by first | rfl | (simp [errW_none, errW_some] <;> rfl) | (simp only [← hji3]; first | rfl | (simp [errW_none, errW_some] <;> rfl)) | (simp [*, errW_none, errW_some] <;> rfl), by repeat (first | (with_reducible first | exact HB.out | apply below_alloc | apply pw_below_drewN | apply below_drew1) | exact HB.out)⟩
                    · rw [if_neg c26] at H
                      have c26b0 : (((rdOf ByteArray.empty t170 (ji3)).size : Int) == 2) = false := beq_eq_false_iff_ne.mpr c26
                      have c26b1 : (((rdOf ByteArray.empty t170 (ji3)).size : Int) != 2) = true := bne_iff_ne.mpr c26
                      by_cases c29 : 2 ≤ ((rdOf ByteArray.empty t170 (ji3)).size : Int)
                      · rw [if_pos c29] at H
                        have c29b0 := eq_true c29
                        have c29b1 : decide (2 ≤ ((rdOf ByteArray.empty t170 (ji3)).size : Int)) = true := decide_eq_true c29
                        clear c29
                        replace H := Option.bind_eq_some_iff.mp H
                        obtain ⟨t176, A300, H⟩ := H
                        replace H : (some t176) = some r := H
                        have A30 := Aside0.mk A300
                        clear A300
                        obtain rfl := Option.some.inj H
                        go_enter Tryz.func138, Tryz.ntmps138
                        go_wp2_with (first | ((with_reducible refine gate_callee (f := 142) rfl ?_); refine goesL_ (some 6) rfl rfl Tryz.func142 (by kernel_rfl) rfl #[.string a0] rfl (by (try simp only [List.map_toArray, List.map_cons, List.map_nil]); first | done | rfl | (simp only [List.length_drop, List.length_take]; rfl)) ?_; (with_reducible refine (parapetref9_parts.calls k a0 t170 _ A2.out).mono ?_); rintro e w31 ⟨v171, rfl, ho0, hb⟩; refine ⟨_, rfl, ?_⟩; have n0_ := Aside0.mk (Kd.R_lower ho0 (below_size (by repeat (first | (with_reducible first | exact HB.out | apply below_alloc | apply pw_below_drewN | apply below_drew1) | exact HB.out)))); have n1_ := Aside0.mk (below_step (by repeat (first | (with_reducible first | exact HB.out | apply below_alloc | apply pw_below_drewN | apply below_drew1) | exact HB.out)) hb); clear HB; have HO172 := n0_; have HB := n1_; clear n0_ n1_; (try clear hb); (try clear hb2); (try clear hk); (try clear hi); (try clear ho0); obtain ⟨Ao32, co32, eo32⟩ := Kd.R_slice HO172.out; subst eo32; have p173 : 0 ≤ ((ji3) : Int) := of_decide_eq_true (by first | (with_reducible assumption) | assumption); have q173 : (ji3) < (t170.length : Int) := of_decide_eq_true (by first | (with_reducible assumption) | assumption); obtain ⟨ad173, e173, hx173_0⟩ := Kd.at_string (Kd.R_reads' HO172.out).2.2 (ji3) p173 q173; cases e173; replace p173 := eq_true p173; replace q173 := eq_true q173) | ((with_reducible refine gate_callee (f := 100) rfl ?_); refine goesL_ (some 14) rfl rfl Tryz.func100 (by kernel_rfl) rfl #[.string (rdOf ByteArray.empty t170 (ji3)), .int .i64 10] rfl (by (try simp only [List.map_toArray, List.map_cons, List.map_nil]); first | done | (simp only [hji3]; rfl) | rfl | (simp only [List.length_drop, List.length_take]; rfl)) ?_; (with_reducible refine (parapetref9_digits.calls (rdOf ByteArray.empty t170 (ji3)) 10 false _ A6.out).mono ?_); rintro e w' ⟨rfl, ⟨nd, rfl⟩⟩; refine ⟨_, rfl, ?_⟩; have p12 : 0 ≤ (0 : Int) := (by omega); have q12 : 0 < (rdOf ByteArray.empty t170 (ji3)).size := (by have : (0 : Int) < ((rdOf ByteArray.empty t170 (ji3)).size : Int) := of_decide_eq_true (by first | (with_reducible assumption) | assumption); omega); have hx12 : ∀ h : 0 < (rdOf ByteArray.empty t170 (ji3)).size, (((rdOf ByteArray.empty t170 (ji3))[0]'h).toNat : Int) = bt (rdOf ByteArray.empty t170 (ji3)) 0 := bt_at (rdOf ByteArray.empty t170 (ji3)) 0; clear p12; have qi12 : (0 < ((rdOf ByteArray.empty t170 (ji3)).size : Int)) = True := eq_true (of_decide_eq_true (by first | (with_reducible assumption) | assumption)); replace q12 := eq_true q12; have p15 : 0 ≤ (1 : Int) := (by omega); have q15 : 1 < (rdOf ByteArray.empty t170 (ji3)).size := (by have : (1 : Int) < ((rdOf ByteArray.empty t170 (ji3)).size : Int) := of_decide_eq_true (by first | (with_reducible assumption) | assumption); omega); have hx15 : ∀ h : 1 < (rdOf ByteArray.empty t170 (ji3)).size, (((rdOf ByteArray.empty t170 (ji3))[1]'h).toNat : Int) = bt (rdOf ByteArray.empty t170 (ji3)) 1 := bt_at (rdOf ByteArray.empty t170 (ji3)) 1; clear p15; have qi15 : (1 < ((rdOf ByteArray.empty t170 (ji3)).size : Int)) = True := eq_true (of_decide_eq_true (by first | (with_reducible assumption) | assumption)); replace q15 := eq_true q15; have p24 : 0 ≤ (1 : Int) := (by omega); have q24 : 1 < (rdOf ByteArray.empty t170 (ji3)).size := (by have : (1 : Int) < ((rdOf ByteArray.empty t170 (ji3)).size : Int) := of_decide_eq_true (by first | (with_reducible assumption) | assumption); omega); have hx24 : ∀ h : 1 < (rdOf ByteArray.empty t170 (ji3)).size, (((rdOf ByteArray.empty t170 (ji3))[1]'h).toNat : Int) = bt (rdOf ByteArray.empty t170 (ji3)) 1 := bt_at (rdOf ByteArray.empty t170 (ji3)) 1; clear p24; have qi24 : (1 < ((rdOf ByteArray.empty t170 (ji3)).size : Int)) = True := eq_true (of_decide_eq_true (by first | (with_reducible assumption) | assumption)); replace q24 := eq_true q24) | (go_at_call 100; (with_reducible refine (parapetref9_digits.calls ((rdOf ByteArray.empty t170 (ji3)).extract 2 (rdOf ByteArray.empty t170 (ji3)).size) 16 t176 _ A30.out).mono ?_); rintro e w' ⟨rfl, ⟨nd, rfl⟩⟩))
                        go_ret
                        exact ⟨by first | rfl | (simp [errW_none, errW_some] <;> rfl) | (simp only [← hji3]; first | rfl | (simp [errW_none, errW_some] <;> rfl)) | (simp [*, errW_none, errW_some] <;> rfl), by repeat (first | (with_reducible first | exact HB.out | apply below_alloc | apply pw_below_drewN | apply below_drew1) | exact HB.out)⟩
                      · rw [if_neg c29] at H
                        exact absurd H (by simp)
                  · rw [if_neg c25] at H
                    have c25b0 : ((bt (rdOf ByteArray.empty t170 (ji3)) 1) == 88) = false := beq_eq_false_iff_ne.mpr c25
                    have c25b1 : ((bt (rdOf ByteArray.empty t170 (ji3)) 1) != 88) = true := bne_iff_ne.mpr c25
                    obtain rfl := Option.some.inj H
                    go_enter Tryz.func138, Tryz.ntmps138
                    go_wp2_with (first | ((with_reducible refine gate_callee (f := 142) rfl ?_); refine goesL_ (some 6) rfl rfl Tryz.func142 (by kernel_rfl) rfl #[.string a0] rfl (by (try simp only [List.map_toArray, List.map_cons, List.map_nil]); first | done | rfl | (simp only [List.length_drop, List.length_take]; rfl)) ?_; (with_reducible refine (parapetref9_parts.calls k a0 t170 _ A2.out).mono ?_); rintro e w33 ⟨v171, rfl, ho0, hb⟩; refine ⟨_, rfl, ?_⟩; have n0_ := Aside0.mk (Kd.R_lower ho0 (below_size (by repeat (first | (with_reducible first | exact HB.out | apply below_alloc | apply pw_below_drewN | apply below_drew1) | exact HB.out)))); have n1_ := Aside0.mk (below_step (by repeat (first | (with_reducible first | exact HB.out | apply below_alloc | apply pw_below_drewN | apply below_drew1) | exact HB.out)) hb); clear HB; have HO172 := n0_; have HB := n1_; clear n0_ n1_; (try clear hb); (try clear hb2); (try clear hk); (try clear hi); (try clear ho0); obtain ⟨Ao34, co34, eo34⟩ := Kd.R_slice HO172.out; subst eo34; have p173 : 0 ≤ ((ji3) : Int) := of_decide_eq_true (by first | (with_reducible assumption) | assumption); have q173 : (ji3) < (t170.length : Int) := of_decide_eq_true (by first | (with_reducible assumption) | assumption); obtain ⟨ad173, e173, hx173_0⟩ := Kd.at_string (Kd.R_reads' HO172.out).2.2 (ji3) p173 q173; cases e173; replace p173 := eq_true p173; replace q173 := eq_true q173) | ((with_reducible refine gate_callee (f := 100) rfl ?_); refine goesL_ (some 14) rfl rfl Tryz.func100 (by kernel_rfl) rfl #[.string (rdOf ByteArray.empty t170 (ji3)), .int .i64 10] rfl (by (try simp only [List.map_toArray, List.map_cons, List.map_nil]); first | done | (simp only [hji3]; rfl) | rfl | (simp only [List.length_drop, List.length_take]; rfl)) ?_; (with_reducible refine (parapetref9_digits.calls (rdOf ByteArray.empty t170 (ji3)) 10 false _ A6.out).mono ?_); rintro e w' ⟨rfl, ⟨nd, rfl⟩⟩; refine ⟨_, rfl, ?_⟩; have p12 : 0 ≤ (0 : Int) := (by omega); have q12 : 0 < (rdOf ByteArray.empty t170 (ji3)).size := (by have : (0 : Int) < ((rdOf ByteArray.empty t170 (ji3)).size : Int) := of_decide_eq_true (by first | (with_reducible assumption) | assumption); omega); have hx12 : ∀ h : 0 < (rdOf ByteArray.empty t170 (ji3)).size, (((rdOf ByteArray.empty t170 (ji3))[0]'h).toNat : Int) = bt (rdOf ByteArray.empty t170 (ji3)) 0 := bt_at (rdOf ByteArray.empty t170 (ji3)) 0; clear p12; have qi12 : (0 < ((rdOf ByteArray.empty t170 (ji3)).size : Int)) = True := eq_true (of_decide_eq_true (by first | (with_reducible assumption) | assumption)); replace q12 := eq_true q12; have p15 : 0 ≤ (1 : Int) := (by omega); have q15 : 1 < (rdOf ByteArray.empty t170 (ji3)).size := (by have : (1 : Int) < ((rdOf ByteArray.empty t170 (ji3)).size : Int) := of_decide_eq_true (by first | (with_reducible assumption) | assumption); omega); have hx15 : ∀ h : 1 < (rdOf ByteArray.empty t170 (ji3)).size, (((rdOf ByteArray.empty t170 (ji3))[1]'h).toNat : Int) = bt (rdOf ByteArray.empty t170 (ji3)) 1 := bt_at (rdOf ByteArray.empty t170 (ji3)) 1; clear p15; have qi15 : (1 < ((rdOf ByteArray.empty t170 (ji3)).size : Int)) = True := eq_true (of_decide_eq_true (by first | (with_reducible assumption) | assumption)); replace q15 := eq_true q15; have p24 : 0 ≤ (1 : Int) := (by omega); have q24 : 1 < (rdOf ByteArray.empty t170 (ji3)).size := (by have : (1 : Int) < ((rdOf ByteArray.empty t170 (ji3)).size : Int) := of_decide_eq_true (by first | (with_reducible assumption) | assumption); omega); have hx24 : ∀ h : 1 < (rdOf ByteArray.empty t170 (ji3)).size, (((rdOf ByteArray.empty t170 (ji3))[1]'h).toNat : Int) = bt (rdOf ByteArray.empty t170 (ji3)) 1 := bt_at (rdOf ByteArray.empty t170 (ji3)) 1; clear p24; have qi24 : (1 < ((rdOf ByteArray.empty t170 (ji3)).size : Int)) = True := eq_true (of_decide_eq_true (by first | (with_reducible assumption) | assumption)); replace q24 := eq_true q24))
                    go_ret
                    exact ⟨by first | rfl | (simp [errW_none, errW_some] <;> rfl) | (simp only [← hji3]; first | rfl | (simp [errW_none, errW_some] <;> rfl)) | (simp [*, errW_none, errW_some] <;> rfl), by repeat (first | (with_reducible first | exact HB.out | apply below_alloc | apply pw_below_drewN | apply below_drew1) | exact HB.out)⟩
              · rw [if_neg c14] at H
                exact absurd H (by simp)
            · rw [if_neg c13] at H
              have c13b0 : ((bt (rdOf ByteArray.empty t170 (ji3)) 0) == 48) = false := beq_eq_false_iff_ne.mpr c13
              have c13b1 : ((bt (rdOf ByteArray.empty t170 (ji3)) 0) != 48) = true := bne_iff_ne.mpr c13
              obtain rfl := Option.some.inj H
              go_enter Tryz.func138, Tryz.ntmps138
              go_wp2_with (first | ((with_reducible refine gate_callee (f := 142) rfl ?_); refine goesL_ (some 6) rfl rfl Tryz.func142 (by kernel_rfl) rfl #[.string a0] rfl (by (try simp only [List.map_toArray, List.map_cons, List.map_nil]); first | done | rfl | (simp only [List.length_drop, List.length_take]; rfl)) ?_; (with_reducible refine (parapetref9_parts.calls k a0 t170 _ A2.out).mono ?_); rintro e w35 ⟨v171, rfl, ho0, hb⟩; refine ⟨_, rfl, ?_⟩; have n0_ := Aside0.mk (Kd.R_lower ho0 (below_size (by repeat (first | (with_reducible first | exact HB.out | apply below_alloc | apply pw_below_drewN | apply below_drew1) | exact HB.out)))); have n1_ := Aside0.mk (below_step (by repeat (first | (with_reducible first | exact HB.out | apply below_alloc | apply pw_below_drewN | apply below_drew1) | exact HB.out)) hb); clear HB; have HO172 := n0_; have HB := n1_; clear n0_ n1_; (try clear hb); (try clear hb2); (try clear hk); (try clear hi); (try clear ho0); obtain ⟨Ao36, co36, eo36⟩ := Kd.R_slice HO172.out; subst eo36; have p173 : 0 ≤ ((ji3) : Int) := of_decide_eq_true (by first | (with_reducible assumption) | assumption); have q173 : (ji3) < (t170.length : Int) := of_decide_eq_true (by first | (with_reducible assumption) | assumption); obtain ⟨ad173, e173, hx173_0⟩ := Kd.at_string (Kd.R_reads' HO172.out).2.2 (ji3) p173 q173; cases e173; replace p173 := eq_true p173; replace q173 := eq_true q173) | ((with_reducible refine gate_callee (f := 100) rfl ?_); refine goesL_ (some 14) rfl rfl Tryz.func100 (by kernel_rfl) rfl #[.string (rdOf ByteArray.empty t170 (ji3)), .int .i64 10] rfl (by (try simp only [List.map_toArray, List.map_cons, List.map_nil]); first | done | (simp only [hji3]; rfl) | rfl | (simp only [List.length_drop, List.length_take]; rfl)) ?_; (with_reducible refine (parapetref9_digits.calls (rdOf ByteArray.empty t170 (ji3)) 10 false _ A6.out).mono ?_); rintro e w' ⟨rfl, ⟨nd, rfl⟩⟩; refine ⟨_, rfl, ?_⟩; have p12 : 0 ≤ (0 : Int) := (by omega); have q12 : 0 < (rdOf ByteArray.empty t170 (ji3)).size := (by have : (0 : Int) < ((rdOf ByteArray.empty t170 (ji3)).size : Int) := of_decide_eq_true (by first | (with_reducible assumption) | assumption); omega); have hx12 : ∀ h : 0 < (rdOf ByteArray.empty t170 (ji3)).size, (((rdOf ByteArray.empty t170 (ji3))[0]'h).toNat : Int) = bt (rdOf ByteArray.empty t170 (ji3)) 0 := bt_at (rdOf ByteArray.empty t170 (ji3)) 0; clear p12; have qi12 : (0 < ((rdOf ByteArray.empty t170 (ji3)).size : Int)) = True := eq_true (of_decide_eq_true (by first | (with_reducible assumption) | assumption)); replace q12 := eq_true q12))
              go_ret
              exact ⟨by first | rfl | (simp [errW_none, errW_some] <;> rfl) | (simp only [← hji3]; first | rfl | (simp [errW_none, errW_some] <;> rfl)) | (simp [*, errW_none, errW_some] <;> rfl), by repeat (first | (with_reducible first | exact HB.out | apply below_alloc | apply pw_below_drewN | apply below_drew1) | exact HB.out)⟩
          · rw [if_neg c11] at H
            exact absurd H (by simp)
        · rw [if_neg c10] at H
          have c10b0 : decide (2 ≤ ((rdOf ByteArray.empty t170 (ji3)).size : Int)) = false := decide_eq_false c10
          have c10b1 : decide (2 ≤ (rdOf ByteArray.empty t170 (ji3)).size) = false := decide_eq_false (by omega)
          clear c10
          obtain rfl := Option.some.inj H
          go_enter Tryz.func138, Tryz.ntmps138
          go_wp2_with (first | ((with_reducible refine gate_callee (f := 142) rfl ?_); refine goesL_ (some 6) rfl rfl Tryz.func142 (by kernel_rfl) rfl #[.string a0] rfl (by (try simp only [List.map_toArray, List.map_cons, List.map_nil]); first | done | rfl | (simp only [List.length_drop, List.length_take]; rfl)) ?_; (with_reducible refine (parapetref9_parts.calls k a0 t170 _ A2.out).mono ?_); rintro e w37 ⟨v171, rfl, ho0, hb⟩; refine ⟨_, rfl, ?_⟩; have n0_ := Aside0.mk (Kd.R_lower ho0 (below_size (by repeat (first | (with_reducible first | exact HB.out | apply below_alloc | apply pw_below_drewN | apply below_drew1) | exact HB.out)))); have n1_ := Aside0.mk (below_step (by repeat (first | (with_reducible first | exact HB.out | apply below_alloc | apply pw_below_drewN | apply below_drew1) | exact HB.out)) hb); clear HB; have HO172 := n0_; have HB := n1_; clear n0_ n1_; (try clear hb); (try clear hb2); (try clear hk); (try clear hi); (try clear ho0); obtain ⟨Ao38, co38, eo38⟩ := Kd.R_slice HO172.out; subst eo38; have p173 : 0 ≤ ((ji3) : Int) := of_decide_eq_true (by first | (with_reducible assumption) | assumption); have q173 : (ji3) < (t170.length : Int) := of_decide_eq_true (by first | (with_reducible assumption) | assumption); obtain ⟨ad173, e173, hx173_0⟩ := Kd.at_string (Kd.R_reads' HO172.out).2.2 (ji3) p173 q173; cases e173; replace p173 := eq_true p173; replace q173 := eq_true q173) | ((with_reducible refine gate_callee (f := 100) rfl ?_); refine goesL_ (some 14) rfl rfl Tryz.func100 (by kernel_rfl) rfl #[.string (rdOf ByteArray.empty t170 (ji3)), .int .i64 10] rfl (by (try simp only [List.map_toArray, List.map_cons, List.map_nil]); first | done | (simp only [hji3]; rfl) | rfl | (simp only [List.length_drop, List.length_take]; rfl)) ?_; (with_reducible refine (parapetref9_digits.calls (rdOf ByteArray.empty t170 (ji3)) 10 false _ A6.out).mono ?_); rintro e w' ⟨rfl, ⟨nd, rfl⟩⟩; refine ⟨_, rfl, ?_⟩))
          go_ret
          exact ⟨by first | rfl | (simp [errW_none, errW_some] <;> rfl) | (simp only [← hji3]; first | rfl | (simp [errW_none, errW_some] <;> rfl)) | (simp [*, errW_none, errW_some] <;> rfl), by repeat (first | (with_reducible first | exact HB.out | apply below_alloc | apply pw_below_drewN | apply below_drew1) | exact HB.out)⟩
    · rw [if_neg c5] at H
      exact absurd H (by simp)
  · rw [if_neg c4] at H
    exact absurd H (by simp)
end Go.Proofs.YtcmcopieagpppaaGreatDoor.P
namespace Go.Proofs.YtcmcopieagpppaaGreatDoor.P
open Go.RowKit Go.Proofs.YtcmcopieagpppaaGreatDoorW.PrintWords Go.Proofs.YtcmcopieagpppaaGreatDoorW.PrintLast Go.Proofs.YtcmcopieagpppaaGreatDoorW.PrintMore
attribute [local go_sem] max2_int min2_int max_two min_two max_three min_three max_four min_four
set_option linter.unusedVariables false
set_option linter.unusedSimpArgs false
mutual
def parapetref1_Decimal.j0 : Nat → Int → Int → Option (ByteArray)
  | 0, _, _ => none
  | k + 1, x0, x3 => parapetref1_Decimal.l0 k x0 x3 ([] : List Int)
def parapetref1_Decimal.l0 : Nat → Int → Int → List Int → Option (ByteArray)
  | 0, _, _, _ => none
  | k + 1, x0, x3, x4 => if x3 > 0 then (if x4.length < 140737488355328 then (parapetref1_Decimal.l0 k x0 (IntKind.u64.wrap (Int.tdiv x3 10)) (x4 ++ [(IntKind.u64.wrap (48 + (Int.tmod x3 10))) % 256])) else (none)) else (if x0 < 0 then (if ([] : List Int).length < 140737488355328 then (parapetref1_Decimal.j2 k x4 (([] : List Int) ++ [45])) else (none)) else (parapetref1_Decimal.j2 k x4 ([] : List Int)))
def parapetref1_Decimal.j2 : Nat → List Int → List Int → Option (ByteArray)
  | 0, _, _ => none
  | k + 1, x4, x5 => parapetref1_Decimal.l1 k x4 x5 (wrap64 ((x4.length : Int) - 1))
def parapetref1_Decimal.l1 : Nat → List Int → List Int → Int → Option (ByteArray)
  | 0, _, _, _ => none
  | k + 1, x4, x5, x6 => if x6 ≥ 0 then (if 0 ≤ x6 then (if x6 < (x4.length : Int) then (if x5.length < 140737488355328 then (parapetref1_Decimal.l1 k x4 (x5 ++ [rd x4 x6]) (wrap64 (x6 - 1))) else (none)) else (none)) else (none)) else (some (strOfNums x5))
end
def parapetref1_Decimal.f (k : Nat) (a0 : Int) : Option (ByteArray) := if a0 = 0 then (some (⟨#[48]⟩ : ByteArray)) else (if a0 < 0 then (parapetref1_Decimal.j0 k a0 (IntKind.u64.wrap (-(IntKind.u64.wrap (a0))))) else (parapetref1_Decimal.j0 k a0 (IntKind.u64.wrap (a0))))
set_option maxHeartbeats 8000000 in
set_option maxRecDepth 100000 in
theorem parapetref1_Decimal.calls (k : Nat) (a0 : Int) (r : ByteArray) (w : World) (h : parapetref1_Decimal.f k a0 = some r) :
    Calls Tryz.prog 70 #[.int .i64 a0] w fun e w' => e = .returned (.string r) ∧ Below w.heap.size w w' := by
  have HB := Aside0.mk (Below.refl w.heap.size w)
  have H : (if a0 = 0 then (some (⟨#[48]⟩ : ByteArray)) else (if a0 < 0 then (parapetref1_Decimal.j0 k a0 (IntKind.u64.wrap (-(IntKind.u64.wrap (a0))))) else (parapetref1_Decimal.j0 k a0 (IntKind.u64.wrap (a0))))) = some r := h
  clear h
  by_cases c2 : a0 = 0
  · rw [if_pos c2] at H
    have c2b0 : (a0 == 0) = true := beq_iff_eq.mpr c2
    have c2b1 : (a0 != 0) = false := bne_eq_false_iff_eq.mpr c2
    clear c2
    obtain rfl := Option.some.inj H
    go_enter Tryz.func70, Tryz.ntmps70
    go_wp2
    go_ret
    exact ⟨by first | rfl | (simp [errW_none, errW_some] <;> rfl) | (simp [*, errW_none, errW_some] <;> rfl), by repeat (first | (with_reducible first | exact HB.out | apply below_alloc | apply pw_below_drewN | apply below_drew1) | exact HB.out)⟩
  · rw [if_neg c2] at H
    have c2b0 : (a0 == 0) = false := beq_eq_false_iff_ne.mpr c2
    have c2b1 : (a0 != 0) = true := bne_iff_ne.mpr c2
    have HC3 := Aside0.mk H
    clear H
    go_enter Tryz.func70, Tryz.ntmps70
    go_upto_if 12 with (fail)
    go_cut [3] (fun v3 wc => ∃ (kq : Nat) (x3_2 : Int), v3 = .int .u64 x3_2 ∧ Aside0 (parapetref1_Decimal.j0 kq a0 x3_2 = some r) ∧ Aside0 (kq ≤ k) ∧ Aside0 (Below w.heap.size w wc))
    case first =>
      have H := HC3.out
      clear HC3
      by_cases c4 : a0 < 0
      · rw [if_pos c4] at H
        have c4b0 : decide (a0 < 0) = true := decide_eq_true c4
        clear c4
        (first | rw [c4b0] | (simp only [i64_w, i32_w]; rw [c4b0]) | skip)
        have H' := Aside0.mk H
        clear H
        go_wp2
        go_meet
        case rel => exact ⟨_, (IntKind.u64.wrap (-(IntKind.u64.wrap (a0)))), (by first | rfl | (simp; done) | (simp [*]; done)), H', ⟨by first | omega | exact Nat.le_refl _⟩, ⟨by repeat (first | (with_reducible first | exact HB.out | apply below_alloc | apply pw_below_drewN | apply below_drew1) | exact HB.out)⟩⟩
      · rw [if_neg c4] at H
        have c4b0 : decide (a0 < 0) = false := decide_eq_false c4
        clear c4
        (first | rw [c4b0] | (simp only [i64_w, i32_w]; rw [c4b0]) | skip)
        have H' := Aside0.mk H
        clear H
        go_wp2
        go_meet
        case rel => exact ⟨_, (IntKind.u64.wrap (a0)), (by first | rfl | (simp; done) | (simp [*]; done)), H', ⟨by first | omega | exact Nat.le_refl _⟩, ⟨by repeat (first | (with_reducible first | exact HB.out | apply below_alloc | apply pw_below_drewN | apply below_drew1) | exact HB.out)⟩⟩
    case rest =>
      clear HC3
      try clear c2
      try clear c2b0
      try clear c2b1
      try clear p2
      try clear c4
      try clear c4b0
      obtain ⟨kq, x3_2, rfl, HA, HJ2, HB⟩ := hcut
      cases kq with
      | zero => exact absurd HA.out (by simp [parapetref1_Decimal.j0])
      | succ kj2 =>
        have H := HA.out
        clear HA
        simp only [parapetref1_Decimal.j0] at H
        have H' := Aside0.mk H
        clear H
        go_wp2
        go_loopg [3, 4] kj2 (fun kq v3 v4 w' => ∃ (x3_2 : Int) (x4_2 : List Int), v3 = .int .u64 x3_2 ∧ Aside0 (parapetref1_Decimal.l0 kq a0 x3_2 x4_2 = some r) ∧ Aside0 (kq ≤ kj2) ∧ Aside0 (Kd.R (Kd.int .u8) 5 w' w.heap.size (fun _ => True) v4 x4_2) ∧ Aside0 (Below w.heap.size w w'))
        case atStart => exact ⟨(x3_2), (([] : List Int)), (by first | rfl | (simp; done) | (simp [*]; done)), H', ⟨Nat.le_refl _⟩, ⟨by first | exact Kd.R_nil _ _ _ _ _ | exact Kd.N_nil _ _ _ _ _ | exact Kd.V_nil _ _ _ _ _ | exact Kd.Q_nil _ _ _ _ _ | exact Kd.S_nil _ _ _ _ _⟩, ⟨by repeat (first | (with_reducible first | exact HB.out | apply below_alloc | apply pw_below_drewN | apply below_drew1) | exact HB.out)⟩⟩
        case round =>
          clear H'
          try clear c2
          try clear c2b0
          try clear c2b1
          try clear p2
          try clear c4
          try clear c4b0
          try clear p2
          obtain ⟨x3_2, x4_2, rfl, HA, HK2, HO_4, HB⟩ := hrel
          cases gk with
          | zero => exact absurd HA.out (by simp [parapetref1_Decimal.l0])
          | succ k2 =>
            have H := HA.out
            clear HA
            simp only [parapetref1_Decimal.l0] at H
            by_cases c5 : x3_2 > 0
            · rw [if_pos c5] at H
              have c5b0 : decide (0 < x3_2) = true := decide_eq_true c5
              clear c5
              by_cases c6 : x4_2.length < 140737488355328
              · rw [if_pos c6] at H
                have LMc6 := Aside0.mk c6
                clear c6
                obtain ⟨y204, hy204⟩ : ∃ y_ : List Int, y_ = (x4_2 ++ [(IntKind.u64.wrap (48 + (Int.tmod x3_2 10))) % 256]) := ⟨_, rfl⟩
                replace H : (parapetref1_Decimal.l0 k2 a0 (IntKind.u64.wrap (Int.tdiv x3_2 10)) y204) = some r := by first | (rw [hy204]; with_reducible exact H) | (have H2_ := (Option.bind_some _ _).symm.trans H; rw [hy204]; with_reducible exact H2_) | (have H2_ := (Option.bind_some _ _).symm.trans H; with_reducible exact H2_) | with_reducible exact H | (rw [hy204]; exact H) | exact H
                have Ny204 := Aside0.mk hy204
                clear hy204
                have H' := Aside0.mk H
                clear H
                go_wp2_with (first | ((with_reducible refine gate_builtin (b := .append) (xs := #[.tmp 17, .tmp 22]) rfl ?_); at_builtin; refine Kd.R_append (Kd.int .u8) (w0 := w) w.heap.size rfl (.tmp 17) (.tmp 22) 46 5 (.int .u8 0) 1 rfl Tryz.underlying46 info5 rfl (by decide) (by omega) u4 x4_2 ((IntKind.u64.wrap (48 + (Int.tmod x3_2 10))) % 256) [.int .u8 ((IntKind.u64.wrap (48 + (Int.tmod x3_2 10))) % 256)] (fun _ => True) (fun _ => False) rfl rfl ?aP (fun _ hk => hk.elim) ?aF ?aO ?aB ?aS ?aL ?_; (case aP => exact rfl); (case aB => exact (by repeat (first | (with_reducible first | exact HB.out | apply below_alloc | apply pw_below_drewN | apply below_drew1) | exact HB.out))); (case aF => exact (fun _ _ => trivial)); (case aO => exact (by (with_reducible repeat (first | apply Kd.R_alloc | apply Kd.R_drewN | apply Kd.R_drew)); exact HO_4.out)); (case aS => exact (below_size (by repeat (first | (with_reducible first | exact HB.out | apply below_alloc | apply pw_below_drewN | apply below_drew1) | exact HB.out)))); (case aL => have := LMc6.out; omega); intro v205 w7 ho hb hg hat; rw [← Ny204.out] at ho; have n0_ := Aside0.mk (hb); have n1_ := Aside0.mk (ho); clear HB; clear HO_4; have HB := n0_; have HO206 := n1_; clear n0_ n1_; clear ho hb hg hat))
                go_roundg k2
                case measure => have := HJ2.out; have := HK2.out; omega
                case rel => exact ⟨(IntKind.u64.wrap (Int.tdiv x3_2 10)), (y204), (by first | rfl | (simp; done) | (simp [*]; done)), H', ⟨by have := HJ2.out; have := HK2.out; omega⟩, ⟨by (with_reducible repeat (first | apply Kd.R_alloc | apply Kd.R_drewN | apply Kd.R_drew)); exact HO206.out⟩, ⟨by repeat (first | (with_reducible first | exact HB.out | apply below_alloc | apply pw_below_drewN | apply below_drew1) | exact HB.out)⟩⟩
              · rw [if_neg c6] at H
                exact absurd H (by simp)
            · rw [if_neg c5] at H
              have c5b0 : decide (0 < x3_2) = false := decide_eq_false c5
              clear c5
              have HC8 := Aside0.mk H
              clear H
              go_upto_if 27 with (fail)
              go_cut [5] (fun v5 wc => ∃ (kq : Nat) (x5_7 : List Int), Aside0 (parapetref1_Decimal.j2 kq x4_2 x5_7 = some r) ∧ Aside0 (kq ≤ k2) ∧ Aside0 (Kd.R (Kd.int .u8) 5 wc w.heap.size (fun k_ => some k_ ≠ (v5 : Value).ownBlock) u4 x4_2) ∧ Aside0 (Kd.R (Kd.int .u8) 5 wc w.heap.size (fun k_ => some k_ ≠ (u4 : Value).ownBlock) v5 x5_7) ∧ Aside0 (Below w.heap.size w wc))
              case first =>
                have H := HC8.out
                clear HC8
                by_cases c9 : a0 < 0
                · rw [if_pos c9] at H
                  have c9b0 : decide (a0 < 0) = true := decide_eq_true c9
                  clear c9
                  (first | rw [c9b0] | (simp only [i64_w, i32_w]; rw [c9b0]) | skip)
                  by_cases c10 : ([] : List Int).length < 140737488355328
                  · rw [if_pos c10] at H
                    have LMc10 := Aside0.mk c10
                    clear c10
                    obtain ⟨y207, hy207⟩ : ∃ y_ : List Int, y_ = (([] : List Int) ++ [45]) := ⟨_, rfl⟩
                    replace H : (parapetref1_Decimal.j2 k2 x4_2 y207) = some r := by first | (rw [hy207]; with_reducible exact H) | (have H2_ := (Option.bind_some _ _).symm.trans H; rw [hy207]; with_reducible exact H2_) | (have H2_ := (Option.bind_some _ _).symm.trans H; with_reducible exact H2_) | with_reducible exact H | (rw [hy207]; exact H) | exact H
                    have Ny207 := Aside0.mk hy207
                    clear hy207
                    have H' := Aside0.mk H
                    clear H
                    go_wp2_with (first | ((with_reducible refine gate_builtin (b := .append) (xs := #[.tmp 28, .tmp 29]) rfl ?_); at_builtin; refine Kd.R_append (Kd.int .u8) (w0 := w) w.heap.size rfl (.tmp 28) (.tmp 29) 46 5 (.int .u8 0) 1 rfl Tryz.underlying46 info5 rfl (by decide) (by omega) (.slice none 0 0) ([] : List Int) 45 [.int .u8 45] (fun k_ => some k_ ≠ (u4 : Value).ownBlock) (fun _ => False) rfl rfl ?aP (fun _ hk => hk.elim) ?aF ?aO ?aB ?aS ?aL ?_; (case aP => exact rfl); (case aB => exact (by repeat (first | (with_reducible first | exact HB.out | apply below_alloc | apply pw_below_drewN | apply below_drew1) | exact HB.out))); (case aF => exact (fun k_ hk => Kd.fresh' (Kd.R_lt (by (with_reducible repeat (first | apply Kd.R_alloc | apply Kd.R_drewN | apply Kd.R_drew)); exact HO_4.out)) k_ hk)); (case aO => exact ((Kd.R_nil _ _ _ _ (fun k_ => some k_ ≠ (u4 : Value).ownBlock)))); (case aS => exact (below_size (by repeat (first | (with_reducible first | exact HB.out | apply below_alloc | apply pw_below_drewN | apply below_drew1) | exact HB.out)))); (case aL => have := LMc10.out; omega); intro v208 w11 ho hb hg hat; rw [← Ny207.out] at ho; have n0_ := Aside0.mk (Kd.R_after (Kd.R_apart_nil (by (with_reducible repeat (first | apply Kd.R_alloc | apply Kd.R_drewN | apply Kd.R_drew)); exact HO_4.out)) hg hat); have n1_ := Aside0.mk (hb); have n2_ := Aside0.mk (ho); clear HO_4; clear HB; have HO_4 := n0_; have HB := n1_; have HO209 := n2_; clear n0_ n1_ n2_; clear ho hb hg hat))
                    go_meet
                    case rel => exact ⟨_, (y207), H', ⟨by have := HJ2.out; have := HK2.out; first | omega | exact Nat.le_refl _⟩, ⟨by (with_reducible repeat (first | apply Kd.R_alloc | apply Kd.R_drewN | apply Kd.R_drew)); exact Kd.R_mono HO_4.out (fun _ hk => hk.2)⟩, ⟨by (with_reducible repeat (first | apply Kd.R_alloc | apply Kd.R_drewN | apply Kd.R_drew)); exact HO209.out⟩, ⟨by repeat (first | (with_reducible first | exact HB.out | apply below_alloc | apply pw_below_drewN | apply below_drew1) | exact HB.out)⟩⟩
                  · rw [if_neg c10] at H
                    exact absurd H (by simp)
                · rw [if_neg c9] at H
                  have c9b0 : decide (a0 < 0) = false := decide_eq_false c9
                  clear c9
                  (first | rw [c9b0] | (simp only [i64_w, i32_w]; rw [c9b0]) | skip)
                  have H' := Aside0.mk H
                  clear H
                  go_wp2
                  go_meet
                  case rel => exact ⟨_, (([] : List Int)), H', ⟨by have := HJ2.out; have := HK2.out; first | omega | exact Nat.le_refl _⟩, ⟨by (with_reducible repeat (first | apply Kd.R_alloc | apply Kd.R_drewN | apply Kd.R_drew)); exact Kd.R_mono HO_4.out (fun _ hk => (by simp [Value.ownBlock]))⟩, ⟨by first | exact Kd.R_nil _ _ _ _ _ | exact Kd.N_nil _ _ _ _ _ | exact Kd.V_nil _ _ _ _ _ | exact Kd.Q_nil _ _ _ _ _ | exact Kd.S_nil _ _ _ _ _⟩, ⟨by repeat (first | (with_reducible first | exact HB.out | apply below_alloc | apply pw_below_drewN | apply below_drew1) | exact HB.out)⟩⟩
              case rest =>
                clear HC8
                try clear c1
                try clear c2
                try clear c2b0
                try clear c2b1
                try clear p2
                try clear c4
                try clear c4b0
                try clear c5
                try clear c5b0
                try clear c6
                try clear c7
                try clear c9
                try clear c9b0
                try clear c10
                try clear p2
                obtain ⟨kq, x5_7, HA, HJ7, HO_4, HO_5, HB⟩ := hcut
                cases kq with
                | zero => exact absurd HA.out (by simp [parapetref1_Decimal.j2])
                | succ kj7 =>
                  have H := HA.out
                  clear HA
                  simp only [parapetref1_Decimal.j2] at H
                  have H' := Aside0.mk H
                  clear H
                  obtain ⟨Ao12, co12, eo12⟩ := Kd.R_slice HO_4.out
                  subst eo12
                  go_wp2
                  go_loopg [5, 6] kj7 (fun kq v5 v6 w' => ∃ (x5_4 : List Int) (x6_4 : Int), v6 = .int .i64 x6_4 ∧ Aside0 (parapetref1_Decimal.l1 kq x4_2 x5_4 x6_4 = some r) ∧ Aside0 (kq ≤ kj7) ∧ Aside0 (Kd.R (Kd.int .u8) 5 w' w.heap.size (fun k_ => some k_ ≠ (v5 : Value).ownBlock) (.slice Ao12 x4_2.length co12) x4_2) ∧ Aside0 (Kd.R (Kd.int .u8) 5 w' w.heap.size (fun k_ => some k_ ≠ ((.slice Ao12 x4_2.length co12) : Value).ownBlock) v5 x5_4) ∧ Aside0 (Below w.heap.size w w'))
                  case atStart => exact ⟨(x5_7), (wrap64 ((x4_2.length : Int) - 1)), (by first | rfl | (simp; done) | (simp [*]; done)), H', ⟨Nat.le_refl _⟩, ⟨by (with_reducible repeat (first | apply Kd.R_alloc | apply Kd.R_drewN | apply Kd.R_drew)); exact HO_4.out⟩, ⟨by (with_reducible repeat (first | apply Kd.R_alloc | apply Kd.R_drewN | apply Kd.R_drew)); exact HO_5.out⟩, ⟨by repeat (first | (with_reducible first | exact HB.out | apply below_alloc | apply pw_below_drewN | apply below_drew1) | exact HB.out)⟩⟩
                  case round =>
                    clear H'
                    try clear c1
                    try clear c2
                    try clear c2b0
                    try clear c2b1
                    try clear p2
                    try clear c4
                    try clear c4b0
                    try clear c5
                    try clear c5b0
                    try clear c6
                    try clear p6
                    try clear c7
                    try clear c9
                    try clear c9b0
                    try clear c10
                    try clear p2
                    obtain ⟨x5_4, x6_4, rfl, HA, HK4, HO_4, HO_5, HB⟩ := hrel
                    cases gk with
                    | zero => exact absurd HA.out (by simp [parapetref1_Decimal.l1])
                    | succ k4 =>
                      have H := HA.out
                      clear HA
                      simp only [parapetref1_Decimal.l1] at H
                      by_cases c13 : x6_4 ≥ 0
                      · rw [if_pos c13] at H
                        have c13b0 : decide (0 ≤ x6_4) = true := decide_eq_true c13
                        clear c13
                        by_cases c14 : 0 ≤ x6_4
                        · rw [if_pos c14] at H
                          have c14b0 : decide (0 ≤ x6_4) = true := decide_eq_true c14
                          clear c14
                          by_cases c15 : x6_4 < (x4_2.length : Int)
                          · rw [if_pos c15] at H
                            have c15b0 : decide (x6_4 < (x4_2.length : Int)) = true := decide_eq_true c15
                            clear c15
                            by_cases c16 : x5_4.length < 140737488355328
                            · rw [if_pos c16] at H
                              have LMc16 := Aside0.mk c16
                              clear c16
                              obtain ⟨y211, hy211⟩ : ∃ y_ : List Int, y_ = (x5_4 ++ [rd x4_2 x6_4]) := ⟨_, rfl⟩
                              replace H : (parapetref1_Decimal.l1 k4 x4_2 y211 (wrap64 (x6_4 - 1))) = some r := by first | (rw [hy211]; with_reducible exact H) | (have H2_ := (Option.bind_some _ _).symm.trans H; rw [hy211]; with_reducible exact H2_) | (have H2_ := (Option.bind_some _ _).symm.trans H; with_reducible exact H2_) | with_reducible exact H | (rw [hy211]; exact H) | exact H
                              have Ny211 := Aside0.mk hy211
                              clear hy211
                              have H' := Aside0.mk H
                              clear H
                              have p210 : 0 ≤ (x6_4 : Int) := of_decide_eq_true (by first | (with_reducible assumption) | assumption)
                              have q210 : x6_4 < (x4_2.length : Int) := of_decide_eq_true (by first | (with_reducible assumption) | assumption)
                              obtain ⟨ad210, e210, hx210_0⟩ := Kd.at_int (Kd.R_reads' HO_4.out).2.2 x6_4 p210 q210
                              cases e210
                              replace p210 := eq_true p210
                              replace q210 := eq_true q210
                              go_wp2_with (first | ((with_reducible refine gate_builtin (b := .append) (xs := #[.tmp 38, .tmp 43]) rfl ?_); at_builtin; refine Kd.R_append (Kd.int .u8) (w0 := w) w.heap.size rfl (.tmp 38) (.tmp 43) 46 5 (.int .u8 0) 1 rfl Tryz.underlying46 info5 rfl (by decide) (by omega) u5 x5_4 (rd x4_2 x6_4) [.int .u8 (rd x4_2 x6_4)] (fun k_ => some k_ ≠ (.slice (some ad210) x4_2.length co12 : Value).ownBlock) (fun _ => False) rfl rfl ?aP (fun _ hk => hk.elim) ?aF ?aO ?aB ?aS ?aL ?_; (case aP => exact rfl); (case aB => exact (by repeat (first | (with_reducible first | exact HB.out | apply below_alloc | apply pw_below_drewN | apply below_drew1) | exact HB.out))); (case aF => exact (fun k_ hk => Kd.fresh' (Kd.R_lt (by (with_reducible repeat (first | apply Kd.R_alloc | apply Kd.R_drewN | apply Kd.R_drew)); exact HO_4.out)) k_ hk)); (case aO => exact (by (with_reducible repeat (first | apply Kd.R_alloc | apply Kd.R_drewN | apply Kd.R_drew)); exact HO_5.out)); (case aS => exact (below_size (by repeat (first | (with_reducible first | exact HB.out | apply below_alloc | apply pw_below_drewN | apply below_drew1) | exact HB.out)))); (case aL => have := LMc16.out; omega); intro v212 w17 ho hb hg hat; rw [← Ny211.out] at ho; have n0_ := Aside0.mk (Kd.R_after (ok := (fun _ => True)) (by (with_reducible repeat (first | apply Kd.R_alloc | apply Kd.R_drewN | apply Kd.R_drew)); exact Kd.R_mono HO_4.out (fun _ hk => ⟨trivial, hk⟩)) hg hat); have n1_ := Aside0.mk (hb); have n2_ := Aside0.mk (ho); clear HO_4; clear HB; clear HO_5; have HO_4 := n0_; have HB := n1_; have HO213 := n2_; clear n0_ n1_ n2_; clear ho hb hg hat))
                              go_roundg k4
                              case measure => have := HJ2.out; have := HK2.out; have := HJ7.out; have := HK4.out; omega
                              case rel => exact ⟨(y211), (wrap64 (x6_4 - 1)), (by first | rfl | (simp; done) | (simp [*]; done)), H', ⟨by have := HJ2.out; have := HK2.out; have := HJ7.out; have := HK4.out; omega⟩, ⟨by (with_reducible repeat (first | apply Kd.R_alloc | apply Kd.R_drewN | apply Kd.R_drew)); exact Kd.R_mono HO_4.out (fun _ hk => hk.2)⟩, ⟨by (with_reducible repeat (first | apply Kd.R_alloc | apply Kd.R_drewN | apply Kd.R_drew)); exact HO213.out⟩, ⟨by repeat (first | (with_reducible first | exact HB.out | apply below_alloc | apply pw_below_drewN | apply below_drew1) | exact HB.out)⟩⟩
                            · rw [if_neg c16] at H
                              exact absurd H (by simp)
                          · rw [if_neg c15] at H
                            exact absurd H (by simp)
                        · rw [if_neg c14] at H
                          exact absurd H (by simp)
                      · rw [if_neg c13] at H
                        have c13b0 : decide (0 ≤ x6_4) = false := decide_eq_false c13
                        clear c13
                        obtain rfl := Option.some.inj H
                        have hcv18 := own_string (P := Tryz.prog) Tryz.underlying46 Tryz.underlying5 Tryz.underlying9 (Kd.own_of_R HO_5.out)
                        go_wp2
                        go_ret
                        exact ⟨by first | rfl | (simp [errW_none, errW_some] <;> rfl) | (simp [*, errW_none, errW_some] <;> rfl), by repeat (first | (with_reducible first | exact HB.out | apply below_alloc | apply pw_below_drewN | apply below_drew1) | exact HB.out)⟩
end Go.Proofs.YtcmcopieagpppaaGreatDoor.P
namespace Go.Proofs.YtcmcopieagpppaaGreatDoor.P
open Go.RowKit Go.Proofs.YtcmcopieagpppaaGreatDoorW.PrintWords Go.Proofs.YtcmcopieagpppaaGreatDoorW.PrintLast Go.Proofs.YtcmcopieagpppaaGreatDoorW.PrintMore
set_option linter.unusedVariables false
set_option linter.unusedSimpArgs false
def splitPre (p : List UInt8) (c : UInt8) (l : List UInt8) : List (List UInt8) := match Web.splitOn c l with
  | [] => [p]
  | h :: r => (p ++ h) :: r
theorem splitOn_ne (c : UInt8) : ∀ l, Web.splitOn c l ≠ []
  | [] => by simp [Web.splitOn]
  | b :: t => by
    unfold Web.splitOn
    split
    · simp
    · split <;> simp
theorem splitPre_nil (c : UInt8) (l : List UInt8) : splitPre [] c l = Web.splitOn c l := by
  unfold splitPre
  cases h : Web.splitOn c l with
  | nil => exact absurd h (splitOn_ne c l)
  | cons a r => rfl
theorem splitPre_hit (p : List UInt8) (c : UInt8) (t : List UInt8) : splitPre p c (c :: t) = p :: Web.splitOn c t := by
  simp [splitPre, Web.splitOn]
theorem splitPre_miss (p : List UInt8) (c b : UInt8) (t : List UInt8) (h : b ≠ c) : splitPre p c (b :: t) = splitPre (p ++ [b]) c t := by
  unfold splitPre
  rw [Web.splitOn, if_neg h]
  cases e : Web.splitOn c t with
  | nil => exact absurd e (splitOn_ne c t)
  | cons a r => simp
theorem split_loop (l : List UInt8) (c : UInt8) (hl : l.length < 8796093022200) : ∀ d i k (acc : List ByteArray) (f : Nat), i + d = l.length → f ≤ i → acc.length ≤ i → d < k →
    parapetref1_Split.l0 k (ba l) (c.toNat : Int) acc (f : Int) (i : Int) = some (acc ++ (splitPre ((l.take i).drop f) c (l.drop i)).map ba)
  | 0, i, k, acc, f, hi, hf, ha, hk => by
    obtain ⟨k, rfl⟩ : ∃ m, k = m + 1 := ⟨k - 1, by omega⟩
    simp only [parapetref1_Split.l0]
    rw [if_neg (by rw [ba_size]; omega), if_pos (by omega), if_pos (by rw [ba_size]; omega), if_pos (by omega), ba_extract, ba_size, List.take_length, List.drop_eq_nil_of_le (show l.length ≤ i by omega), List.take_of_length_le (show l.length ≤ i by omega)]
    simp [splitPre, Web.splitOn]
  | d + 1, i, k, acc, f, hi, hf, ha, hk => by
    obtain ⟨k, rfl⟩ : ∃ m, k = m + 1 := ⟨k - 1, by omega⟩
    have hi' : i < l.length := by omega
    simp only [parapetref1_Split.l0]
    rw [if_pos (by rw [ba_size]; omega), if_pos (by omega), bt_ba l i hi', wrap_up (by omega), List.drop_eq_getElem_cons hi']
    by_cases e : l[i] = c
    · rw [if_pos (by rw [u8_eq]; exact e), if_pos (by omega), if_pos (by omega), if_pos (by rw [ba_size]; omega), if_pos (by omega), e, splitPre_hit,
        split_loop l c hl d (i + 1) k _ (i + 1) (by omega) (by omega) (by rw [List.length_append, List.length_singleton]; omega) (by omega), ba_extract]
      rw [List.drop_eq_nil_of_le (show (l.take (i + 1)).length ≤ i + 1 by rw [List.length_take]; omega), splitPre_nil]
      simp
    · rw [if_neg (by rw [u8_eq]; exact e), splitPre_miss _ _ _ _ e, split_loop l c hl d (i + 1) k acc f (by omega) (by omega) (by omega) (by omega)]
      have : (l.take (i + 1)).drop f = (l.take i).drop f ++ [l[i]] := by
        rw [List.take_succ_eq_append_getElem hi', List.drop_append_of_le_length (by rw [List.length_take]; omega)]
      rw [this]
theorem split_eq (l : List UInt8) (c : UInt8) (k : Nat) (hl : l.length < 8796093022200) (hk : l.length < k) : parapetref1_Split.f k (ba l) (c.toNat : Int) = some ((Web.splitOn c l).map ba) := by
  have := split_loop l c hl l.length 0 k [] 0 (by omega) (Nat.le_refl _) (Nat.le_refl _) hk
  unfold parapetref1_Split.f
  simpa [splitPre_nil] using this
theorem splitOn_len (c : UInt8) : ∀ l, (Web.splitOn c l).length ≤ l.length + 1
  | [] => by simp [Web.splitOn]
  | b :: t => by
    have ih := splitOn_len c t
    unfold Web.splitOn
    split
    · simp; omega
    · split
      · simp
      · rename_i h; rw [h] at ih; simp at ih ⊢; omega
theorem splitOn_pos (c : UInt8) (l : List UInt8) : 1 ≤ (Web.splitOn c l).length := by
  have := splitOn_ne c l
  cases h : Web.splitOn c l with
  | nil => exact absurd h this
  | cons a r => simp
theorem splitOn_piece (c : UInt8) : ∀ (l : List UInt8) (p : List UInt8), p ∈ Web.splitOn c l → p.length ≤ l.length
  | [], p, h => by simp [Web.splitOn] at h; subst h; simp
  | b :: t, p, h => by
    have ih := splitOn_piece c t
    unfold Web.splitOn at h
    split at h
    · rcases List.mem_cons.1 h with rfl | h
      · simp
      · have := ih p h; simp; omega
    · split at h
      · simp at h; subst h; simp
      · rename_i a r e
        rw [e] at ih
        rcases List.mem_cons.1 h with rfl | h
        · have := ih a (by simp); simp; omega
        · have := ih p (by simp [h]); simp; omega
theorem rdOf_ba (L : List (List UInt8)) (i : Nat) (h : i < L.length) : rdOf ByteArray.empty (L.map ba) (i : Int) = ba L[i] := by
  unfold rdOf
  simp [List.getD_eq_getElem?_getD, List.getElem?_eq_getElem h]
theorem getLast_at {α : Type} (L : List α) (h : L ≠ []) : L.getLast? = some (L[L.length - 1]'(by have := List.length_pos_iff.2 h; omega)) := by
  rw [List.getLast?_eq_getElem?, List.getElem?_eq_getElem]
theorem parts_eq (l : List UInt8) (k : Nat) (hl : l.length < 8796093022200) (hk : l.length < k) : parapetref9_parts.f k (ba l) = some ((Web.partsOf l).map ba) := by
  have hs := split_eq l 46 k hl hk
  have hp := splitOn_pos 46 l
  have hle := splitOn_len 46 l
  have hne := splitOn_ne 46 l
  unfold parapetref9_parts.f
  rw [show (46 : Int) = ((46 : UInt8).toNat : Int) from rfl, hs]
  simp only [Option.bind_some]
  unfold Web.partsOf
  generalize Web.splitOn 46 l = L at *
  simp only [List.length_map]
  have hw : wrap64 ((L.length : Int) - 1) = ((L.length - 1 : Nat) : Int) := by unfold wrap64; omega
  rw [hw]
  by_cases h1 : 1 < L.length
  · rw [if_pos (by omega), if_pos (by omega), if_pos (by omega), rdOf_ba L _ (by omega), ba_toList, getLast_at L hne]
    by_cases h2 : L[L.length - 1] = []
    · rw [if_pos h2, if_pos (by omega), if_pos ⟨h1, by rw [h2]⟩]
      simp [List.dropLast_eq_take]
    · rw [if_neg h2, if_neg (by rintro ⟨_, e⟩; exact h2 (by simpa using e))]
  · rw [if_neg (by omega), if_neg (by rintro ⟨e, _⟩; exact h1 e)]
theorem partsOf_def (l : List UInt8) : Web.partsOf l = if 1 < (Web.splitOn 46 l).length ∧ (Web.splitOn 46 l).getLast? = some [] then (Web.splitOn 46 l).dropLast else Web.splitOn 46 l := rfl
theorem partsOf_ne (l : List UInt8) : Web.partsOf l ≠ [] := by
  rw [partsOf_def]
  have := splitOn_ne 46 l
  split
  · rename_i h
    intro e
    have := congrArg List.length e
    rw [List.length_dropLast] at this
    simp at this
    omega
  · exact this
theorem partsOf_piece (l : List UInt8) (p : List UInt8) (h : p ∈ Web.partsOf l) : p.length ≤ l.length := by
  rw [partsOf_def] at h
  split at h
  · exact splitOn_piece 46 l p (List.dropLast_subset _ h)
  · exact splitOn_piece 46 l p h
theorem hexI_V (c : UInt8) : hexI (c.toNat : Int) = match Web.hexV c with
    | some v => (v : Int)
    | none => -1 := by
  unfold hexI Web.hexV
  have := c.toNat_lt
  by_cases h1 : 48 ≤ c.toNat ∧ c.toNat ≤ 57
  · rw [if_pos (by omega), if_pos h1]; simp; omega
  by_cases h2 : 97 ≤ c.toNat ∧ c.toNat ≤ 102
  · rw [if_neg (by omega), if_pos (by omega), if_neg h1, if_pos h2]; simp; omega
  by_cases h3 : 65 ≤ c.toNat ∧ c.toNat ≤ 70
  · rw [if_neg (by omega), if_neg (by omega), if_pos (by omega), if_neg h1, if_neg h2, if_pos h3]; simp; omega
  rw [if_neg (by omega), if_neg (by omega), if_neg (by omega), if_neg h1, if_neg h2, if_neg h3]
theorem hexV_lt (c : UInt8) (v : Nat) (h : Web.hexV c = some v) : v < 16 := by
  unfold Web.hexV at h
  repeat' split at h
  all_goals first | (injection h with h; omega) | cases h
theorem digitsI_eq (l : List UInt8) (b : Nat) : digitsI l (b : Int) = (Web.allDig b l && !l.isEmpty) := by
  unfold digitsI Web.allDig
  congr 2
  funext c
  unfold okDig
  rw [hexI_V]
  cases Web.hexV c with
  | none => simp
  | some v => simp
theorem hex_eq (c : UInt8) (k : Nat) (hk : 3 ≤ k) : parapetref9_hex.f k (c.toNat : Int) = some (hexI (c.toNat : Int)) := by
  obtain ⟨m, rfl⟩ : ∃ m, k = m + 3 := ⟨k - 3, by omega⟩
  have := c.toNat_lt
  simp only [parapetref9_hex.f, parapetref9_hex.j0, parapetref9_hex.j1, hexI]
  repeat' split
  all_goals first | (congr 1; omega) | (exfalso; simp_all; done) | (simp_all; done) | (exfalso; simp_all; omega) | (simp_all; omega)
theorem value_snoc (b : Nat) (l : List UInt8) (c : UInt8) : Web.value b (l ++ [c]) = b * Web.value b l + (Web.hexV c).getD 0 := by
  simp [Web.value, List.foldl_append]
theorem value_from (b : Nat) (l : List UInt8) : ∀ n, l.foldl (fun n c => b * n + (Web.hexV c).getD 0) n ≥ n * b ^ l.length := by
  induction l with
  | nil => intro n; simp
  | cons c t ih =>
    intro n
    rw [List.foldl_cons, List.length_cons]
    refine Nat.le_trans ?_ (ih _)
    rw [Nat.pow_succ]
    calc n * (b ^ t.length * b) = (b * n) * b ^ t.length := by rw [Nat.mul_comm (b ^ t.length), ← Nat.mul_assoc, Nat.mul_comm n b]
      _ ≤ _ := Nat.mul_le_mul_right _ (Nat.le_add_right _ _)
theorem value_mono (b : Nat) (hb : 1 ≤ b) (l : List UInt8) (i : Nat) : Web.value b (l.take i) ≤ Web.value b l := by
  have h := value_from b (l.drop i) (Web.value b (l.take i))
  have e : Web.value b l = (l.drop i).foldl (fun n c => b * n + (Web.hexV c).getD 0) (Web.value b (l.take i)) := by
    unfold Web.value
    rw [← List.foldl_append, List.take_append_drop]
  rw [e]
  refine Nat.le_trans ?_ h
  exact Nat.le_mul_of_pos_right _ (Nat.pow_pos hb)
theorem allDig_at {b : Nat} {l : List UInt8} (h : Web.allDig b l = true) (i : Nat) (hi : i < l.length) : ∃ v, Web.hexV l[i] = some v ∧ v < b := by
  unfold Web.allDig at h
  rw [List.all_eq_true] at h
  have := h l[i] (List.getElem_mem hi)
  cases e : Web.hexV l[i] with
  | none => rw [e] at this; cases this
  | some v => rw [e] at this; exact ⟨v, rfl, by simpa using this⟩
theorem u64_small {x : Int} (h0 : 0 ≤ x) (h1 : x < 18446744073709551616) : IntKind.u64.wrap x = x := by
  rw [IntKind.wrap_u64]
  omega
theorem part_loop (l : List UInt8) (b : Nat) (hb : 1 ≤ b ∧ b ≤ 16) (hd : Web.allDig b l = true) (hl : l.length ≤ 9223372036854775806) : ∀ d i k, i + d = l.length → d + 3 < k → Web.value b (l.take i) < 4294967296 →
    parapetref9_part.l0 k (ba l) (b : Int) (Web.value b (l.take i) : Int) (i : Int) = some (if Web.value b l < 4294967296 then ((Web.value b l : Int), true) else (0, false))
  | 0, i, k, hi, hk, hv => by
    obtain ⟨k, rfl⟩ : ∃ m, k = m + 1 := ⟨k - 1, by omega⟩
    simp only [parapetref9_part.l0]
    rw [List.take_of_length_le (by omega)] at hv ⊢
    rw [if_neg (by rw [ba_size]; omega), if_pos hv]
  | d + 1, i, k, hi, hk, hv => by
    obtain ⟨k, rfl⟩ : ∃ m, k = m + 1 := ⟨k - 1, by omega⟩
    have hi' : i < l.length := by omega
    obtain ⟨v, hv1, hv2⟩ := allDig_at hd i hi'
    have hm := value_mono b hb.1 l (i + 1)
    have hs : Web.value b (l.take (i + 1)) = b * Web.value b (l.take i) + v := by
      rw [List.take_succ_eq_append_getElem hi', value_snoc, hv1]; rfl
    have hbv : b * Web.value b (l.take i) ≤ 16 * 4294967295 := Nat.mul_le_mul hb.2 (by omega)
    have hi2 : hexI (l[i].toNat : Int) = (v : Int) := by rw [hexI_V, hv1]
    simp only [parapetref9_part.l0]
    rw [if_pos (by rw [ba_size]; omega), if_pos (by omega), bt_ba l i hi', hex_eq _ _ (by omega), wrap_up (by omega)]
    simp only [Option.bind_some]
    have e1 : (Web.value b (l.take i) : Int) * (b : Int) = ((b * Web.value b (l.take i) : Nat) : Int) := by rw [Nat.mul_comm]; simp
    rw [hi2, u64_small (x := (b : Int)) (by omega) (by omega), e1, u64_small (x := (v : Int)) (by omega) (by omega), u64_small (x := ((b * Web.value b (l.take i) : Nat) : Int)) (by omega) (by omega), u64_small (by omega) (by omega)]
    rw [show ((b * Web.value b (l.take i) : Nat) : Int) + (v : Int) = ((Web.value b (l.take (i + 1)) : Nat) : Int) from by rw [hs]; omega]
    by_cases h : Web.value b (l.take (i + 1)) < 4294967296
    · rw [if_neg (by omega)]
      exact part_loop l b hb hd hl d (i + 1) k (by omega) (by omega) h
    · rw [if_pos (by omega), if_neg (by omega)]
theorem part_j1 (l : List UInt8) (b : Nat) (hb : 1 ≤ b ∧ b ≤ 16) (hl : l.length ≤ 9223372036854775806) (k : Nat) (hk : l.length + 4 < k) :
    parapetref9_part.j1 k (ba l) (b : Int) = some (if Web.allDig b l = true ∧ l ≠ [] ∧ Web.value b l < 4294967296 then ((Web.value b l : Int), true) else (0, false)) := by
  obtain ⟨k, rfl⟩ : ∃ m, k = m + 1 := ⟨k - 1, by omega⟩
  simp only [parapetref9_part.j1, parapetref9_digits.f]
  rw [if_pos (by rw [ba_size]; omega), ba_list, digitsI_eq]
  simp only [Option.bind_some]
  by_cases h1 : Web.allDig b l = true
  · by_cases h2 : l = []
    · subst h2; simp
    · have : (Web.allDig b l && !l.isEmpty) = true := by cases l <;> simp_all
      rw [if_pos this]
      have := part_loop l b hb h1 hl l.length 0 k (by omega) (by omega) (by simp [Web.value])
      rw [List.take_zero] at this
      refine this.trans ?_
      by_cases h3 : Web.value b l < 4294967296
      · rw [if_pos h3, if_pos ⟨h1, h2, h3⟩]
      · rw [if_neg h3, if_neg (fun h => h3 h.2.2)]
  · rw [if_neg (by simp [h1]), if_neg (fun h => h1 h.1)]
def partP (l : List UInt8) : Int × Bool := match Web.part l with
  | some n => ((n : Int), true)
  | none => (0, false)
theorem hexTail_two (a b : UInt8) (t : List UInt8) : Web.hexTail (a :: b :: t) = if a = 48 ∧ (b = 120 ∨ b = 88) then some t else none := rfl
theorem part_hex (a b : UInt8) (t : List UInt8) (h : a = 48 ∧ (b = 120 ∨ b = 88)) : partP (a :: b :: t) = if Web.allDig 16 t = true ∧ Web.value 16 t < 4294967296 then ((Web.value 16 t : Int), true) else (0, false) := by
  unfold partP Web.part
  rw [hexTail_two, if_pos h]
  simp only []
  rw [if_neg (by simp)]
  cases e : Web.allDig 16 t with
  | false => simp
  | true =>
    by_cases h3 : Web.value 16 t < 4294967296 <;> simp [h3]
theorem part_oct (b : UInt8) (t : List UInt8) (h : ¬ (b = 120 ∨ b = 88)) : partP (48 :: b :: t) = if Web.allDig 8 (b :: t) = true ∧ Web.value 8 (b :: t) < 4294967296 then ((Web.value 8 (b :: t) : Int), true) else (0, false) := by
  unfold partP Web.part
  rw [hexTail_two, if_neg (by simp [h])]
  simp only []
  rw [if_neg (by simp)]
  cases e : Web.allDig 8 (b :: t) with
  | false => simp
  | true =>
    by_cases h3 : Web.value 8 (b :: t) < 4294967296 <;> simp [h3]
theorem part_dec (l : List UInt8) (h : ∀ b t, l ≠ 48 :: b :: t) : partP l = if Web.allDig 10 l = true ∧ l ≠ [] ∧ Web.value 10 l < 4294967296 then ((Web.value 10 l : Int), true) else (0, false) := by
  unfold partP Web.part
  have ht : Web.hexTail l = none := by
    unfold Web.hexTail
    split
    · rename_i a b t
      rw [if_neg]
      rintro ⟨rfl, _⟩
      exact h b t rfl
    · rfl
  have hm : (match l with
      | 48 :: b :: t => (8, b :: t)
      | _ => (10, l)) = (10, l) := by
    split
    · rename_i b t; exact absurd rfl (h b t)
    · rfl
  rw [ht]
  simp only [hm]
  by_cases h2 : l = []
  · subst h2; simp
  · rw [if_neg h2]
    cases e : Web.allDig 10 l with
    | false => simp
    | true =>
      by_cases h3 : Web.value 10 l < 4294967296 <;> simp [h2, h3]
theorem ref_part_eq (l : List UInt8) (hl : l.length ≤ 9223372036854775806) (k : Nat) (hk : l.length + 6 < k) : parapetref9_part.f k (ba l) = some (partP l) := by
  obtain ⟨k, rfl⟩ : ∃ m, k = m + 1 := ⟨k - 1, by omega⟩
  have fin : ∀ (x : Bool) (hx : x = false) (h10 : ∀ b t, l ≠ 48 :: b :: t ∨ (b ≠ 120 ∧ b ≠ 88)), parapetref9_part.j0 (k + 1) (ba l) 10 x = some (partP l) := by
    intro x hx h10
    subst hx
    simp only [parapetref9_part.j0]
    rw [if_neg (by simp)]
    match l, hl, hk, h10 with
    | [], hl, hk, h10 =>
      rw [if_neg (by rw [ba_size]; simp)]
      rw [part_dec [] (by simp)]
      have := part_j1 [] 10 (by omega) (by simp) k (by simp at hk ⊢; omega)
      simpa using this
    | [a], hl, hk, h10 =>
      rw [if_neg (by rw [ba_size]; simp)]
      rw [part_dec [a] (by simp)]
      exact part_j1 [a] 10 (by omega) (by simp) k (by simp at hk ⊢; omega)
    | a :: b :: t, hl, hk, h10 =>
      have hbt : bt (ba (a :: b :: t)) 0 = (a.toNat : Int) := bt_ba (a :: b :: t) 0 (by simp)
      rw [if_pos (by rw [ba_size]; simp; omega), if_pos (by rw [ba_size]; simp; omega), hbt]
      by_cases ha : a = 48
      · subst ha
        rw [if_pos (show ((48 : UInt8).toNat : Int) = 48 from rfl), if_pos (by rw [ba_size]; simp; omega), ba_extract, ba_size, List.take_length]
        have hb := (h10 b t).resolve_left (by simp)
        rw [part_oct b t (by simp [hb.1, hb.2])]
        have := part_j1 (b :: t) 8 (by omega) (by simp at hl ⊢; omega) k (by simp at hk ⊢; omega)
        simpa using this
      · rw [if_neg (by rw [show (48 : Int) = ((48 : UInt8).toNat : Int) from rfl, u8_eq]; exact ha)]
        rw [part_dec _ (by rintro b' t' e; injection e with e _; exact ha e)]
        exact part_j1 (a :: b :: t) 10 (by omega) hl k (by omega)
  unfold parapetref9_part.f
  match l, hl, hk, fin with
  | [], hl, hk, fin => rw [if_neg (by rw [ba_size]; simp)]; exact fin _ rfl (by simp)
  | [a], hl, hk, fin => rw [if_neg (by rw [ba_size]; simp)]; exact fin _ rfl (by simp)
  | a :: b :: t, hl, hk, fin =>
    have hbt : bt (ba (a :: b :: t)) 0 = (a.toNat : Int) := bt_ba (a :: b :: t) 0 (by simp)
    have hbt1 : bt (ba (a :: b :: t)) 1 = (b.toNat : Int) := bt_ba (a :: b :: t) 1 (by simp)
    rw [if_pos (by rw [ba_size]; simp; omega), if_pos (by rw [ba_size]; simp; omega), hbt]
    have hexy : (a = 48 ∧ (b = 120 ∨ b = 88)) → parapetref9_part.j0 (k + 1) (ba (a :: b :: t)) 10 true = some (partP (a :: b :: t)) := by
      intro h
      simp only [parapetref9_part.j0]
      rw [if_pos trivial, if_pos (by rw [ba_size]; simp; omega), ba_extract, ba_size, List.take_length, part_hex a b t h]
      simp only [List.drop_succ_cons, List.drop_zero, ba_toList]
      by_cases h2 : t = []
      · subst h2; rfl
      · rw [if_neg h2]
        have := part_j1 t 16 (by omega) (by simp at hl; omega) k (by simp at hk ⊢; omega)
        refine this.trans ?_
        simp [h2]
    by_cases ha : a = 48
    · rw [if_pos (by rw [ha]; rfl), if_pos (by rw [ba_size]; simp; omega), hbt1]
      by_cases hb : b = 120
      · rw [if_pos (by rw [hb]; rfl)]
        exact hexy ⟨ha, .inl hb⟩
      · rw [if_neg (by rw [show (120 : Int) = ((120 : UInt8).toNat : Int) from rfl, u8_eq]; exact hb)]
        by_cases hb' : b = 88
        · rw [show ((b.toNat : Int) == 88) = true from by rw [hb']; rfl]
          exact hexy ⟨ha, .inr hb'⟩
        · refine fin _ (by rw [beq_eq_false_iff_ne, Ne, show (88 : Int) = ((88 : UInt8).toNat : Int) from rfl, u8_eq]; exact hb') ?_
          intro b1 t1
          by_cases e : a :: b :: t = 48 :: b1 :: t1
          · injection e with _ e; injection e with e _; subst e; exact .inr ⟨hb, hb'⟩
          · exact .inl e
    · rw [if_neg (by rw [show (48 : Int) = ((48 : UInt8).toNat : Int) from rfl, u8_eq]; exact ha)]
      exact fin _ rfl (fun b1 t1 => .inl (by rintro e; injection e with e _; exact ha e))
theorem part_lt (l : List UInt8) (n : Nat) (h : Web.part l = some n) : n < 4294967296 := by
  have e : partP l = ((n : Int), true) := by unfold partP; rw [h]
  have key : ∀ (c : Prop) [Decidable c] (v : Nat), (c → v < 4294967296) → (if c then ((v : Int), true) else (0, false)) = ((n : Int), true) → n < 4294967296 := by
    intro c _ v hv hh
    split at hh
    · rename_i hc
      simp only [Prod.mk.injEq, and_true] at hh
      have := hv hc
      omega
    · simp at hh
  match l, e with
  | [], e => rw [part_dec [] (by simp)] at e; exact key _ _ (fun h => h.2.2) e
  | [a], e => rw [part_dec [a] (by simp)] at e; exact key _ _ (fun h => h.2.2) e
  | a :: b :: t, e =>
    by_cases hx : a = 48 ∧ (b = 120 ∨ b = 88)
    · rw [part_hex a b t hx] at e; exact key _ _ (fun h => h.2) e
    · by_cases ha : a = 48
      · subst ha
        rw [part_oct b t (fun h => hx ⟨rfl, h⟩)] at e; exact key _ _ (fun h => h.2) e
      · rw [part_dec _ (by rintro b' t' e'; injection e' with e' _; exact ha e')] at e; exact key _ _ (fun h => h.2.2) e
end Go.Proofs.YtcmcopieagpppaaGreatDoor.P
namespace Go.Proofs.YtcmcopieagpppaaGreatDoor.P
open Go.RowKit Go.Proofs.YtcmcopieagpppaaGreatDoorW.PrintWords Go.Proofs.YtcmcopieagpppaaGreatDoorW.PrintLast Go.Proofs.YtcmcopieagpppaaGreatDoorW.PrintMore
attribute [local go_sem] max2_int min2_int max_two min_two max_three min_three max_four min_four
set_option linter.unusedVariables false
set_option linter.unusedSimpArgs false
def slices_Reverse_byte_byte.l0 : Nat → List Int → Int → Int → Option (List Int)
  | 0, _, _, _ => none
  | k + 1, x0, x2, x3 => if x2 < x3 then (if 0 ≤ x3 then (if x3 < (x0.length : Int) then (if 0 ≤ x2 then (if x2 < (x0.length : Int) then (slices_Reverse_byte_byte.l0 k ((x0.set (x2 : Int).toNat (rd x0 x3)).set (x3 : Int).toNat (rd x0 x2)) (wrap64 (x2 + 1)) (wrap64 (x3 - 1))) else (none)) else (none)) else (none)) else (none)) else (some x0)
def slices_Reverse_byte_byte.f (k : Nat) (l0 : List Int) : Option (List Int) := slices_Reverse_byte_byte.l0 k l0 0 (wrap64 ((l0.length : Int) - 1))
def slices_Reverse_byte_byte.T3 : Bool × List (List Nat × List Nat) := (true, [([], []), ([], []), ([], []), ([], []), ([], []), ([], []), ([4, 5], [4, 5]), ([6], [6]), ([], []), ([], []), ([8, 9], [8, 9]), ([10], [10]), ([0, 1, 0, 1, 4, 5, 6, 7, 11], [0, 1]), ([12, 7, 0, 1, 4, 5, 6, 7, 11], [7, 12]), ([2, 3, 0, 1, 2, 3, 4, 5, 6, 7, 8, 9, 10, 11, 12, 13], [2, 3]), ([14, 11, 13, 0, 1, 2, 3, 4, 5, 6, 7, 8, 9, 10, 11, 12, 13], [11, 14])])
def slices_Reverse_byte_byte.B3 : List Nat := [0, 0, 0, 0, 0, 0, 48, 112, 0, 0, 768, 1792, 4083, 8179, 16383, 32767]
theorem slices_Reverse_byte_byte.tab3 : rtab .any (opsOf Tryz.f103 3) = slices_Reverse_byte_byte.T3 := by kernel_rfl
theorem slices_Reverse_byte_byte.bits3 : waitsOk slices_Reverse_byte_byte.T3.2 slices_Reverse_byte_byte.B3 = true := by kernel_rfl
set_option maxHeartbeats 8000000 in
set_option maxRecDepth 100000 in
theorem slices_Reverse_byte_byte.calls (k : Nat) (P0_ : Nat → Prop) (u9000_ : Value) (l0 : List Int) (r : List Int) (w0 w : World) (hB : Below w0.heap.size w0 w) (ho0 : Kd.R (Kd.int .u8) 5 w w0.heap.size P0_ u9000_ l0) (h : slices_Reverse_byte_byte.f k l0 = some r) :
    Calls Tryz.prog 103 #[u9000_] w fun e w' => e = .returned (.tuple #[]) ∧ Kd.R (Kd.int .u8) 5 w' w0.heap.size (fun k_ => (P0_ k_ ∨ w.heap.size ≤ k_)) u9000_ r ∧ Below w0.heap.size w0 w' ∧ Kept w w' (fun k_ => P0_ k_) := by
  have HO0 := Aside0.mk (show Kd.R (Kd.int .u8) 5 w w0.heap.size (fun k_ => (P0_ k_ ∨ w.heap.size ≤ k_)) u9000_ l0 from Kd.R_mono ho0 (fun k_ hk => (.inl hk)))
  have HK := Aside0.mk (Kept.refl w (fun k_ => P0_ k_))
  have HW0 := Aside0.mk hB.size
  have HB := Aside0.mk hB
  clear hB
  have H : (slices_Reverse_byte_byte.l0 k l0 0 (wrap64 ((l0.length : Int) - 1))) = some r := h
  clear h
  have H' := Aside0.mk H
  clear H
  obtain ⟨Ao2, co2, eo2⟩ := Kd.R_slice HO0.out
  subst eo2
  go_enter Tryz.func103, Tryz.ntmps103
  go_wp2
  go_loopg [2, 3] k (fun kq v2 v3 w' => ∃ (x0_1 : List Int) (x2_1 : Int) (x3_1 : Int), v2 = .int .i64 x2_1 ∧ v3 = .int .i64 x3_1 ∧ Aside0 (slices_Reverse_byte_byte.l0 kq x0_1 x2_1 x3_1 = some r) ∧ Aside0 (kq ≤ k) ∧ Aside0 (Kd.R (Kd.int .u8) 5 w' w0.heap.size (fun k_ => (P0_ k_ ∨ w.heap.size ≤ k_)) (.slice Ao2 l0.length co2) x0_1) ∧ Aside0 (Kept w w' (fun k_ => P0_ k_)) ∧ Aside0 (Below w0.heap.size w0 w'))
  case atStart => exact ⟨(l0), (0), (wrap64 ((l0.length : Int) - 1)), (by first | rfl | (simp; done) | (simp [*]; done)), (by first | rfl | (simp; done) | (simp [*]; done)), H', ⟨Nat.le_refl _⟩, ⟨by (with_reducible repeat (first | apply Kd.R_alloc | apply Kd.R_drewN | apply Kd.R_drew)); exact HO0.out⟩, ⟨by repeat (first | (with_reducible first | exact HK.out | apply Kept.alloc | apply Kept.drewN | apply Kept.drew) | exact HK.out)⟩, ⟨by repeat (first | (with_reducible first | exact HB.out | apply below_alloc | apply pw_below_drewN | apply below_drew1) | exact HB.out)⟩⟩
  case round =>
    clear H'
    try clear c1
    try clear p2
    obtain ⟨x0_1, x2_1, x3_1, rfl, rfl, HA, HK1, HO_0, HK, HB⟩ := hrel
    have hl0_1 := (Kd.R_reads' HO_0.out).1
    rw [hl0_1] at HO_0
    (try simp only [hl0_1])
    cases gk with
    | zero => exact absurd HA.out (by simp [slices_Reverse_byte_byte.l0])
    | succ k1 =>
      have H := HA.out
      clear HA
      simp only [slices_Reverse_byte_byte.l0] at H
      by_cases c3 : x2_1 < x3_1
      · rw [if_pos c3] at H
        have c3b0 : decide (x2_1 < x3_1) = true := decide_eq_true c3
        clear c3
        by_cases c4 : 0 ≤ x3_1
        · rw [if_pos c4] at H
          have c4b0 : decide (0 ≤ x3_1) = true := decide_eq_true c4
          clear c4
          by_cases c5 : x3_1 < (x0_1.length : Int)
          · rw [if_pos c5] at H
            have c5b0 : decide (x3_1 < (x0_1.length : Int)) = true := decide_eq_true c5
            clear c5
            by_cases c6 : 0 ≤ x2_1
            · rw [if_pos c6] at H
              have c6b0 : decide (0 ≤ x2_1) = true := decide_eq_true c6
              clear c6
              by_cases c7 : x2_1 < (x0_1.length : Int)
              · rw [if_pos c7] at H
                have c7b0 : decide (x2_1 < (x0_1.length : Int)) = true := decide_eq_true c7
                clear c7
                obtain ⟨y195, hy195⟩ : ∃ y_ : List Int, y_ = (x0_1.set (x2_1 : Int).toNat (rd x0_1 x3_1)) := ⟨_, rfl⟩
                replace H : (slices_Reverse_byte_byte.l0 k1 (y195.set (x3_1 : Int).toNat (rd x0_1 x2_1)) (wrap64 (x2_1 + 1)) (wrap64 (x3_1 - 1))) = some r := by first | (rw [hy195]; with_reducible exact H) | (have H2_ := (Option.bind_some _ _).symm.trans H; rw [hy195]; with_reducible exact H2_) | (have H2_ := (Option.bind_some _ _).symm.trans H; with_reducible exact H2_) | with_reducible exact H | (rw [hy195]; exact H) | exact H
                have Ny195 := Aside0.mk hy195
                clear hy195
                obtain ⟨y196, hy196⟩ : ∃ y_ : List Int, y_ = (y195.set (x3_1 : Int).toNat (rd x0_1 x2_1)) := ⟨_, rfl⟩
                replace H : (slices_Reverse_byte_byte.l0 k1 y196 (wrap64 (x2_1 + 1)) (wrap64 (x3_1 - 1))) = some r := by first | (rw [hy196]; with_reducible exact H) | (have H2_ := (Option.bind_some _ _).symm.trans H; rw [hy196]; with_reducible exact H2_) | (have H2_ := (Option.bind_some _ _).symm.trans H; with_reducible exact H2_) | with_reducible exact H | (rw [hy196]; exact H) | exact H
                have Ny196 := Aside0.mk hy196
                clear hy196
                have H' := Aside0.mk H
                clear H
                try go_wp2
                have n0_ := Aside0.mk (Kd.R_drew HO_0.out)
                have n1_ := Aside0.mk (Kept.drew HK.out)
                have n2_ := Aside0.mk (below_drew1 HB.out)
                clear HO_0
                clear HK
                clear HB
                have HO_0 := n0_
                have HK := n1_
                have HB := n2_
                clear n0_ n1_ n2_
                have p193 : 0 ≤ (x3_1 : Int) := of_decide_eq_true (by first | (with_reducible assumption) | assumption)
                have q193 : x3_1 < (x0_1.length : Int) := of_decide_eq_true (by first | (with_reducible assumption) | assumption)
                obtain ⟨ad193, e193, hx193_0⟩ := Kd.at_int (Kd.R_reads' HO_0.out).2.2 x3_1 p193 q193
                cases e193
                replace p193 := eq_true p193
                replace q193 := eq_true q193
                have p194 : 0 ≤ (x2_1 : Int) := of_decide_eq_true (by first | (with_reducible assumption) | assumption)
                have q194 : x2_1 < (x0_1.length : Int) := of_decide_eq_true (by first | (with_reducible assumption) | assumption)
                obtain ⟨ad194, e194, hx194_0⟩ := Kd.at_int (Kd.R_reads' HO_0.out).2.2 x2_1 p194 q194
                obtain rfl : ad193 = ad194 := (by injection e194)
                replace p194 := eq_true p194
                replace q194 := eq_true q194
                have p8 : 0 ≤ (x2_1 : Int) := of_decide_eq_true (by first | (with_reducible assumption) | assumption)
                have q8 : (x2_1 : Int) < ((x0_1.length : Int) : Int) := of_decide_eq_true (by first | (with_reducible assumption) | assumption)
                obtain ⟨go8, co8, eo8, gb8, gl8, cl8, HG8⟩ := Kd.R_form HO_0.out (by omega)
                (first | cases eo8 | (injection eo8 with ea_ en_ ec_; (first | subst ea_ | (injection ea_ with ea_; subst ea_)); subst ec_; clear en_))
                have GB8 := Aside0.mk gb8
                have GG8 := Aside0.mk HG8
                clear gb8 gl8 HG8
                have HMgo8 := Aside0.mk (show (P0_ go8 ∨ w.heap.size ≤ go8) from (HO_0.out.1 _ rfl))
                (first | simp only [add_plain] at hx193_0 | skip)
                (first | simp only [add_plain] at hx194_0 | skip)
                obtain ⟨hx8_0, hf8_0⟩ := Kd.R_celln 0 HO_0.out (x2_1 : Int) p8 q8
                replace p8 := eq_true p8
                replace q8 := eq_true q8
                have HP11 := Kd.R_putn HO_0.out (x2_1 : Int) (rd x0_1 x3_1)
                rw [← Ny195.out] at HP11
                have HQ11 := Aside0.mk HP11
                clear HP11
                have p9 : 0 ≤ (x3_1 : Int) := of_decide_eq_true (by first | (with_reducible assumption) | assumption)
                have q9 : (x3_1 : Int) < ((x0_1.length : Int) : Int) := of_decide_eq_true (by first | (with_reducible assumption) | assumption)
                obtain ⟨hx9_0, hf9_0⟩ := Kd.R_celln 0 HQ11.out (x3_1 : Int) p9 q9
                replace p9 := eq_true p9
                replace q9 := eq_true q9
                have HP12 := Kd.R_putn HQ11.out (x3_1 : Int) (rd x0_1 x2_1)
                rw [← Ny196.out] at HP12
                have HQ12 := Aside0.mk HP12
                clear HP12
                refine start_ (n := 16) (S := fun w' => w'.cell? ⟨go8, (x3_1).toNat, none⟩ = some (.int .u8 (rd x0_1 x3_1)) ∧ w'.cell? ⟨go8, (x2_1).toNat, none⟩ = some (.int .u8 (rd x0_1 x2_1))) (ds := [13, 15]) #[false, false, false, false, false, false, false, false, false, false, false, false, false, false, false, false] (by kernel_rfl) rfl rfl ⟨hx193_0, hx194_0⟩ (fun hHeld => ?_); refine with_tabW slices_Reverse_byte_byte.tab3 slices_Reverse_byte_byte.bits3 (fun HT_ HW_ => ?_)
                generalize wr.drew = w10 at HO_0 HK HB GG8 HQ11 HQ12 hf8_0 hf9_0 hx193_0 hx194_0 hx8_0 hx9_0 hHeld ⊢
                refine pure_ (i := 0) (N := some 14) (v := ?_) (a' := ?_) #[true, false, false, false, false, false, false, false, false, false, false, false, false, false, false, false] rfl rfl (any_of HT_.out (by kernel_rfl)) (fun _ _ _ h => h) (Or.inl ⟨by rfl, ?_⟩) ?_ ?_
                rotate_left
                · intro w'
                  go_simp
                  with_reducible rfl
                rotate_left
                · simp only [Act.put, List.setIfInBounds_toArray, List.set_cons_zero, List.set_cons_succ, i64_w, i32_w]
                  rfl
                refine pure_ (i := 1) (N := some 15) (v := ?_) (a' := ?_) #[true, true, false, false, false, false, false, false, false, false, false, false, false, false, false, false] rfl rfl (any_of HT_.out (by kernel_rfl)) (fun _ _ _ h => h) (Or.inl ⟨by rfl, ?_⟩) ?_ ?_
                rotate_left
                · intro w'
                  go_simp
                  with_reducible rfl
                rotate_left
                · simp only [Act.put, List.setIfInBounds_toArray, List.set_cons_zero, List.set_cons_succ, i64_w, i32_w]
                  rfl
                refine pure_ (i := 2) (N := some 16) (v := ?_) (a' := ?_) #[true, true, true, false, false, false, false, false, false, false, false, false, false, false, false, false] rfl rfl (any_of HT_.out (by kernel_rfl)) (fun _ _ _ h => h) (Or.inl ⟨by rfl, ?_⟩) ?_ ?_
                rotate_left
                · intro w'
                  go_simp
                  with_reducible rfl
                rotate_left
                · simp only [Act.put, List.setIfInBounds_toArray, List.set_cons_zero, List.set_cons_succ, i64_w, i32_w]
                  rfl
                refine pure_ (i := 3) (N := some 17) (v := ?_) (a' := ?_) #[true, true, true, true, false, false, false, false, false, false, false, false, false, false, false, false] rfl rfl (any_of HT_.out (by kernel_rfl)) (fun _ _ _ h => h) (Or.inl ⟨by rfl, ?_⟩) ?_ ?_
                rotate_left
                · intro w'
                  go_simp
                  with_reducible rfl
                rotate_left
                · simp only [Act.put, List.setIfInBounds_toArray, List.set_cons_zero, List.set_cons_succ, i64_w, i32_w]
                  rfl
                refine pure_ (i := 4) (N := some 18) (v := ?_) (a' := ?_) #[true, true, true, true, true, false, false, false, false, false, false, false, false, false, false, false] rfl rfl (any_of HT_.out (by kernel_rfl)) (fun _ _ _ h => h) (Or.inl ⟨by rfl, ?_⟩) ?_ ?_
                rotate_left
                · intro w'
                  go_simp
                  with_reducible rfl
                rotate_left
                · simp only [Act.put, List.setIfInBounds_toArray, List.set_cons_zero, List.set_cons_succ, i64_w, i32_w]
                  rfl
                refine pure_ (i := 5) (N := some 19) (v := ?_) (a' := ?_) #[true, true, true, true, true, true, false, false, false, false, false, false, false, false, false, false] rfl rfl (any_of HT_.out (by kernel_rfl)) (fun _ _ _ h => h) (Or.inl ⟨by rfl, ?_⟩) ?_ ?_
                rotate_left
                · intro w'
                  go_simp
                  with_reducible rfl
                rotate_left
                · simp only [Act.put, List.setIfInBounds_toArray, List.set_cons_zero, List.set_cons_succ, i64_w, i32_w]
                  rfl
                refine pure_ (i := 6) (N := some 20) (v := ?_) (a' := ?_) #[true, true, true, true, true, true, true, false, false, false, false, false, false, false, false, false] rfl rfl (any_of HT_.out (by kernel_rfl)) (fun _ _ _ h => h) (Or.inl ⟨by rfl, ?_⟩) ?_ ?_
                rotate_left
                · intro w'
                  go_simp
                  with_reducible rfl
                rotate_left
                · simp only [Act.put, List.setIfInBounds_toArray, List.set_cons_zero, List.set_cons_succ, i64_w, i32_w]
                  rfl
                refine pure_ (i := 8) (N := some 22) (v := ?_) (a' := ?_) #[true, true, true, true, true, true, true, false, true, false, false, false, false, false, false, false] rfl rfl (any_of HT_.out (by kernel_rfl)) (fun _ _ _ h => h) (Or.inl ⟨by rfl, ?_⟩) ?_ ?_
                rotate_left
                · intro w'
                  go_simp
                  with_reducible rfl
                rotate_left
                · simp only [Act.put, List.setIfInBounds_toArray, List.set_cons_zero, List.set_cons_succ, i64_w, i32_w]
                  rfl
                refine pure_ (i := 9) (N := some 23) (v := ?_) (a' := ?_) #[true, true, true, true, true, true, true, false, true, true, false, false, false, false, false, false] rfl rfl (any_of HT_.out (by kernel_rfl)) (fun _ _ _ h => h) (Or.inl ⟨by rfl, ?_⟩) ?_ ?_
                rotate_left
                · intro w'
                  go_simp
                  with_reducible rfl
                rotate_left
                · simp only [Act.put, List.setIfInBounds_toArray, List.set_cons_zero, List.set_cons_succ, i64_w, i32_w]
                  rfl
                refine pure_ (i := 10) (N := some 24) (v := ?_) (a' := ?_) #[true, true, true, true, true, true, true, false, true, true, true, false, false, false, false, false] rfl rfl (any_of HT_.out (by kernel_rfl)) (fun _ _ _ h => h) (Or.inl ⟨by rfl, ?_⟩) ?_ ?_
                rotate_left
                · intro w'
                  go_simp
                  with_reducible rfl
                rotate_left
                · simp only [Act.put, List.setIfInBounds_toArray, List.set_cons_zero, List.set_cons_succ, i64_w, i32_w]
                  rfl
                refine take_ (i := 7) (N := some 21) (v := ?_) (a' := ?_) #[true, true, true, true, true, true, true, true, true, true, true, false, false, false, false, false] rfl rfl (take_ofW HT_.out HW_.out (by kernel_rfl)) (fun _ _ _ h => h) (Or.inl ⟨by rfl, ?_⟩) hHeld ?_ ?_
                rotate_left
                · rintro w' ⟨s0, s1⟩
                  go_simp
                  with_reducible rfl
                rotate_left
                · simp only [Act.put, List.setIfInBounds_toArray, List.set_cons_zero, List.set_cons_succ, i64_w, i32_w]
                  rfl
                refine take_ (i := 11) (N := some 25) (v := ?_) (a' := ?_) #[true, true, true, true, true, true, true, true, true, true, true, true, false, false, false, false] rfl rfl (take_ofW HT_.out HW_.out (by kernel_rfl)) (fun _ _ _ h => h) (Or.inl ⟨by rfl, ?_⟩) hHeld ?_ ?_
                rotate_left
                · rintro w' ⟨s0, s1⟩
                  go_simp
                  with_reducible rfl
                rotate_left
                · simp only [Act.put, List.setIfInBounds_toArray, List.set_cons_zero, List.set_cons_succ, i64_w, i32_w]
                  rfl
                refine pure_ (i := 12) (N := some 26) (v := ?_) (a' := ?_) #[true, true, true, true, true, true, true, true, true, true, true, true, true, false, false, false] rfl rfl (any_of HT_.out (by kernel_rfl)) (fun _ _ _ h => h) (Or.inl ⟨by rfl, ?_⟩) ?_ ?_
                rotate_left
                · intro w'
                  go_simp
                  with_reducible rfl
                rotate_left
                · simp only [Act.put, List.setIfInBounds_toArray, List.set_cons_zero, List.set_cons_succ, i64_w, i32_w]
                  rfl
                refine last_ (i := 13) (N := none) #[true, true, true, true, true, true, true, true, true, true, true, true, true, true, false, false] rfl rfl (one_of HT_.out (by kernel_rfl)) (by decide) (fun K hK => ?_)
                refine skip_ (w1 := ?_) (by rfl) rfl ?_ ?_
                rotate_left
                · go_simp
                  rfl
                refine hK.out _ _ ?_
                clear hK K
                refine pure_ (i := 14) (N := some 27) (v := ?_) (a' := ?_) #[true, true, true, true, true, true, true, true, true, true, true, true, true, true, true, false] rfl rfl (any_of HT_.out (by kernel_rfl)) (fun _ _ _ h => h) (Or.inl ⟨by rfl, ?_⟩) ?_ ?_
                rotate_left
                · intro w'
                  go_simp
                  with_reducible rfl
                rotate_left
                · simp only [Act.put, List.setIfInBounds_toArray, List.set_cons_zero, List.set_cons_succ, i64_w, i32_w]
                  rfl
                refine last_ (i := 15) (N := none) #[true, true, true, true, true, true, true, true, true, true, true, true, true, true, true, true] rfl rfl (one_of HT_.out (by kernel_rfl)) (by decide) (fun K hK => ?_)
                refine skip_ (w1 := ?_) (by rfl) rfl ?_ ?_
                rotate_left
                · go_simp
                  rfl
                refine hK.out _ _ ?_
                clear hK K
                refine done_ (done_of HT_.out (by kernel_rfl)) ?_
                try go_wp2
                (try simp only [← hl0_1])
                go_roundg k1
                case measure => have := HK1.out; omega
                case rel => exact ⟨(y196), (wrap64 (x2_1 + 1)), (wrap64 (x3_1 - 1)), (by first | rfl | (simp; done) | (simp [*]; done)), (by first | rfl | (simp; done) | (simp [*]; done)), H', ⟨by have := HK1.out; omega⟩, ⟨by (try simp only [hl0_1]); (with_reducible repeat (first | apply Kd.R_alloc | apply Kd.R_drewN | apply Kd.R_drew)); exact HQ12.out⟩, ⟨by repeat (first | (with_reducible first | exact HK.out | apply Kept.alloc | apply Kept.drewN | apply Kept.drew | refine Kept.setCell ?_ HMgo8.out _ | refine Kept.setCell ?_ HMgo8.out _) | exact HK.out)⟩, ⟨by repeat (first | (with_reducible first | exact HB.out | apply below_alloc | apply pw_below_drewN | apply below_drew1 | refine below_set ?_ GB8.out | refine below_set ?_ GB8.out) | exact HB.out)⟩⟩
              · rw [if_neg c7] at H
                exact absurd H (by simp)
            · rw [if_neg c6] at H
              exact absurd H (by simp)
          · rw [if_neg c5] at H
            exact absurd H (by simp)
        · rw [if_neg c4] at H
          exact absurd H (by simp)
      · rw [if_neg c3] at H
        have c3b0 : decide (x2_1 < x3_1) = false := decide_eq_false c3
        clear c3
        obtain rfl := Option.some.inj H
        go_wp2
        first | go_end0 | ((try simp only [Exit.inBlock, Exit.then]); refine bodyPost_ret (results_none rfl _ _ _) rfl ?_)
        exact ⟨by first | rfl | (simp [errW_none, errW_some] <;> rfl) | (simp [*, errW_none, errW_some] <;> rfl), (by first | exact (by (with_reducible repeat (first | apply Kd.R_alloc | apply Kd.R_drewN | apply Kd.R_drew)); exact HO_0.out) | (simp only [hl0_1]; exact (by (with_reducible repeat (first | apply Kd.R_alloc | apply Kd.R_drewN | apply Kd.R_drew)); exact HO_0.out))), by repeat (first | (with_reducible first | exact HB.out | apply below_alloc | apply pw_below_drewN | apply below_drew1) | exact HB.out), by repeat (first | (with_reducible first | exact HK.out | apply Kept.alloc | apply Kept.drewN | apply Kept.drew) | exact HK.out)⟩
end Go.Proofs.YtcmcopieagpppaaGreatDoor.P
namespace Go.Proofs.YtcmcopieagpppaaGreatDoor.P
open Go.RowKit Go.Proofs.YtcmcopieagpppaaGreatDoorW.PrintWords Go.Proofs.YtcmcopieagpppaaGreatDoorW.PrintLast Go.Proofs.YtcmcopieagpppaaGreatDoorW.PrintMore
attribute [local go_sem] max2_int min2_int max_two min_two max_three min_three max_four min_four
set_option linter.unusedVariables false
set_option linter.unusedSimpArgs false
mutual
def ascii_Decimal.j0 : Nat → Int → ByteArray → Option (ByteArray)
  | 0, _, _ => none
  | k + 1, x3, x4 => ascii_Decimal.l0 k (IntKind.u64.wrap (Int.tdiv x3 10)) x4 (([(IntKind.u64.wrap (48 + (Int.tmod x3 10))) % 256] : List Int))
def ascii_Decimal.l0 : Nat → Int → ByteArray → List Int → Option (ByteArray)
  | 0, _, _, _ => none
  | k + 1, x3, x4, x5 => if x3 > 0 then (if x5.length < 140737488355328 then (ascii_Decimal.l0 k (IntKind.u64.wrap (Int.tdiv x3 10)) x4 (x5 ++ [(IntKind.u64.wrap (48 + (Int.tmod x3 10))) % 256])) else (none)) else ((slices_Reverse_byte_byte.f k x5).bind fun t203 => (if x4.size + (strOfNums t203).size ≤ 9223372036854775807 then (some (x4 ++ (strOfNums t203))) else (none)))
end
def ascii_Decimal.f (k : Nat) (a0 : Int) : Option (ByteArray) := if a0 < 0 then (ascii_Decimal.j0 k (IntKind.u64.wrap (-(IntKind.u64.wrap (a0)))) (⟨#[45]⟩ : ByteArray)) else (ascii_Decimal.j0 k (IntKind.u64.wrap (a0)) (⟨#[]⟩ : ByteArray))
set_option maxHeartbeats 8000000 in
set_option maxRecDepth 100000 in
theorem ascii_Decimal.calls (k : Nat) (a0 : Int) (r : ByteArray) (w : World) (h : ascii_Decimal.f k a0 = some r) :
    Calls Tryz.prog 69 #[.int .i64 a0] w fun e w' => e = .returned (.string r) ∧ Below w.heap.size w w' := by
  have HB := Aside0.mk (Below.refl w.heap.size w)
  have H : (if a0 < 0 then (ascii_Decimal.j0 k (IntKind.u64.wrap (-(IntKind.u64.wrap (a0)))) (⟨#[45]⟩ : ByteArray)) else (ascii_Decimal.j0 k (IntKind.u64.wrap (a0)) (⟨#[]⟩ : ByteArray))) = some r := h
  clear h
  have HC2 := Aside0.mk H
  clear H
  go_enter Tryz.func69, Tryz.ntmps69
  go_upto_if 9 with (fail)
  go_cut [3, 4] (fun v3 v4 wc => ∃ (kq : Nat) (x3_1 : Int) (x4_1 : ByteArray), v3 = .int .u64 x3_1 ∧ v4 = .string x4_1 ∧ Aside0 (ascii_Decimal.j0 kq x3_1 x4_1 = some r) ∧ Aside0 (kq ≤ k) ∧ Aside0 (Below w.heap.size w wc))
  case first =>
    have H := HC2.out
    clear HC2
    by_cases c3 : a0 < 0
    · rw [if_pos c3] at H
      have c3b0 : decide (a0 < 0) = true := decide_eq_true c3
      clear c3
      (first | rw [c3b0] | (simp only [i64_w, i32_w]; rw [c3b0]) | skip)
      have H' := Aside0.mk H
      clear H
      go_wp2
      go_meet
      case rel => exact ⟨_, (IntKind.u64.wrap (-(IntKind.u64.wrap (a0)))), ((⟨#[45]⟩ : ByteArray)), (by first | rfl | (simp; done) | (simp [*]; done)), (by first | rfl | (simp; done) | (simp [*]; done)), H', ⟨by first | omega | exact Nat.le_refl _⟩, ⟨by repeat (first | (with_reducible first | exact HB.out | apply below_alloc | apply pw_below_drewN | apply below_drew1) | exact HB.out)⟩⟩
    · rw [if_neg c3] at H
      have c3b0 : decide (a0 < 0) = false := decide_eq_false c3
      clear c3
      (first | rw [c3b0] | (simp only [i64_w, i32_w]; rw [c3b0]) | skip)
      have H' := Aside0.mk H
      clear H
      go_wp2
      go_meet
      case rel => exact ⟨_, (IntKind.u64.wrap (a0)), ((⟨#[]⟩ : ByteArray)), (by first | rfl | (simp; done) | (simp [*]; done)), (by first | rfl | (simp; done) | (simp [*]; done)), H', ⟨by first | omega | exact Nat.le_refl _⟩, ⟨by repeat (first | (with_reducible first | exact HB.out | apply below_alloc | apply pw_below_drewN | apply below_drew1) | exact HB.out)⟩⟩
  case rest =>
    clear HC2
    try clear p2
    try clear c3
    try clear c3b0
    obtain ⟨kq, x3_1, x4_1, rfl, rfl, HA, HJ1, HB⟩ := hcut
    cases kq with
    | zero => exact absurd HA.out (by simp [ascii_Decimal.j0])
    | succ kj1 =>
      have H := HA.out
      clear HA
      simp only [ascii_Decimal.j0] at H
      obtain ⟨y197, hy197⟩ : ∃ y_ : List Int, y_ = (([(IntKind.u64.wrap (48 + (Int.tmod x3_1 10))) % 256] : List Int)) := ⟨_, rfl⟩
      replace H : (ascii_Decimal.l0 kj1 (IntKind.u64.wrap (Int.tdiv x3_1 10)) x4_1 y197) = some r := by first | (rw [hy197]; with_reducible exact H) | (have H2_ := (Option.bind_some _ _).symm.trans H; rw [hy197]; with_reducible exact H2_) | (have H2_ := (Option.bind_some _ _).symm.trans H; with_reducible exact H2_) | with_reducible exact H | (rw [hy197]; exact H) | exact H
      have Ny197 := Aside0.mk hy197
      clear hy197
      have H' := Aside0.mk H
      clear H
      go_wp2_with (first | ((with_reducible refine gate_dst (N := 16) rfl ?_); refine Kd.R_lit (Kd.int .u8) _ 5 ?hg (N := 16) ?hd (xs := ([(IntKind.u64.wrap (48 + (Int.tmod x3_1 10))) % 256] : List Int)) (inner := [.int .u8 ((IntKind.u64.wrap (48 + (Int.tmod x3_1 10))) % 256)]) (ok := fun _ => True) (okp := fun _ => True) ?hr ?hp (fun _ hk => hk) trivial (Below.refl _ _) (Nat.le_refl _) (by simp) ?_; (case hd => rfl); (case hg => rfl); (case hr => first | (go_simp; done) | (go_simp; rfl)); (case hp => exact (Reps.one (show Kd.M (Kd.int .u8) _ _ _ ((IntKind.u64.wrap (48 + (Int.tmod x3_1 10))) % 256) [.int .u8 ((IntKind.u64.wrap (48 + (Int.tmod x3_1 10))) % 256)] from rfl) (Reps.none _ _))); intro v198 w4 ho5 hb hg_ hnew_; clear hg_ hnew_; (first | rw [← Ny197.out] at ho5 | (simp only [Int.reduceToNat] at ho5; rw [← Ny197.out] at ho5)); have n0_ := Aside0.mk (Kd.R_lower ho5 (below_size (by repeat (first | (with_reducible first | exact HB.out | apply below_alloc | apply pw_below_drewN | apply below_drew1) | exact HB.out)))); have n1_ := Aside0.mk (below_step (by repeat (first | (with_reducible first | exact HB.out | apply below_alloc | apply pw_below_drewN | apply below_drew1) | exact HB.out)) hb); clear HB; have HO199 := n0_; have HB := n1_; clear n0_ n1_; clear hb ho5))
      go_loopg [3, 5] kj1 (fun kq v3 v5 w' => ∃ (x3_2 : Int) (x5_2 : List Int), v3 = .int .u64 x3_2 ∧ Aside0 (ascii_Decimal.l0 kq x3_2 x4_1 x5_2 = some r) ∧ Aside0 (kq ≤ kj1) ∧ Aside0 (Kd.R (Kd.int .u8) 5 w' w.heap.size (fun _ => True) v5 x5_2) ∧ Aside0 (Below w.heap.size w w'))
      case atStart => exact ⟨(IntKind.u64.wrap (Int.tdiv x3_1 10)), (y197), (by first | rfl | (simp; done) | (simp [*]; done)), H', ⟨Nat.le_refl _⟩, ⟨by (with_reducible repeat (first | apply Kd.R_alloc | apply Kd.R_drewN | apply Kd.R_drew)); exact HO199.out⟩, ⟨by repeat (first | (with_reducible first | exact HB.out | apply below_alloc | apply pw_below_drewN | apply below_drew1) | exact HB.out)⟩⟩
      case round =>
        clear H'
        try clear p2
        try clear c3
        try clear c3b0
        try clear p2
        obtain ⟨x3_2, x5_2, rfl, HA, HK2, HO_5, HB⟩ := hrel
        cases gk with
        | zero => exact absurd HA.out (by simp [ascii_Decimal.l0])
        | succ k2 =>
          have H := HA.out
          clear HA
          simp only [ascii_Decimal.l0] at H
          by_cases c6 : x3_2 > 0
          · rw [if_pos c6] at H
            have c6b0 : decide (0 < x3_2) = true := decide_eq_true c6
            clear c6
            by_cases c7 : x5_2.length < 140737488355328
            · rw [if_pos c7] at H
              have LMc7 := Aside0.mk c7
              clear c7
              obtain ⟨y200, hy200⟩ : ∃ y_ : List Int, y_ = (x5_2 ++ [(IntKind.u64.wrap (48 + (Int.tmod x3_2 10))) % 256]) := ⟨_, rfl⟩
              replace H : (ascii_Decimal.l0 k2 (IntKind.u64.wrap (Int.tdiv x3_2 10)) x4_1 y200) = some r := by first | (rw [hy200]; with_reducible exact H) | (have H2_ := (Option.bind_some _ _).symm.trans H; rw [hy200]; with_reducible exact H2_) | (have H2_ := (Option.bind_some _ _).symm.trans H; with_reducible exact H2_) | with_reducible exact H | (rw [hy200]; exact H) | exact H
              have Ny200 := Aside0.mk hy200
              clear hy200
              have H' := Aside0.mk H
              clear H
              go_wp2_with (first | ((with_reducible refine gate_builtin (b := .append) (xs := #[.tmp 23, .tmp 28]) rfl ?_); at_builtin; refine Kd.R_append (Kd.int .u8) (w0 := w) w.heap.size rfl (.tmp 23) (.tmp 28) 46 5 (.int .u8 0) 1 rfl Tryz.underlying46 info5 rfl (by decide) (by omega) u5 x5_2 ((IntKind.u64.wrap (48 + (Int.tmod x3_2 10))) % 256) [.int .u8 ((IntKind.u64.wrap (48 + (Int.tmod x3_2 10))) % 256)] (fun _ => True) (fun _ => False) rfl rfl ?aP (fun _ hk => hk.elim) ?aF ?aO ?aB ?aS ?aL ?_; (case aP => exact rfl); (case aB => exact (by repeat (first | (with_reducible first | exact HB.out | apply below_alloc | apply pw_below_drewN | apply below_drew1) | exact HB.out))); (case aF => exact (fun _ _ => trivial)); (case aO => exact (by (with_reducible repeat (first | apply Kd.R_alloc | apply Kd.R_drewN | apply Kd.R_drew)); exact HO_5.out)); (case aS => exact (below_size (by repeat (first | (with_reducible first | exact HB.out | apply below_alloc | apply pw_below_drewN | apply below_drew1) | exact HB.out)))); (case aL => have := LMc7.out; omega); intro v201 w8 ho hb hg hat; rw [← Ny200.out] at ho; have n0_ := Aside0.mk (hb); have n1_ := Aside0.mk (ho); clear HB; clear HO_5; have HB := n0_; have HO202 := n1_; clear n0_ n1_; clear ho hb hg hat))
              go_roundg k2
              case measure => have := HJ1.out; have := HK2.out; omega
              case rel => exact ⟨(IntKind.u64.wrap (Int.tdiv x3_2 10)), (y200), (by first | rfl | (simp; done) | (simp [*]; done)), H', ⟨by have := HJ1.out; have := HK2.out; omega⟩, ⟨by (with_reducible repeat (first | apply Kd.R_alloc | apply Kd.R_drewN | apply Kd.R_drew)); exact HO202.out⟩, ⟨by repeat (first | (with_reducible first | exact HB.out | apply below_alloc | apply pw_below_drewN | apply below_drew1) | exact HB.out)⟩⟩
            · rw [if_neg c7] at H
              exact absurd H (by simp)
          · rw [if_neg c6] at H
            have c6b0 : decide (0 < x3_2) = false := decide_eq_false c6
            clear c6
            replace H := Option.bind_eq_some_iff.mp H
            obtain ⟨t203, A90, H⟩ := H
            replace H : (if x4_1.size + (strOfNums t203).size ≤ 9223372036854775807 then (some (x4_1 ++ (strOfNums t203))) else (none)) = some r := H
            have A9 := Aside0.mk A90
            clear A90
            by_cases c10 : x4_1.size + (strOfNums t203).size ≤ 9223372036854775807
            · rw [if_pos c10] at H
              have c10b0 := eq_true c10
              have c10b1 : decide (x4_1.size + (strOfNums t203).size ≤ 9223372036854775807) = true := decide_eq_true c10
              try have c10b2 : (9223372036854775807 < x4_1.size + (strOfNums t203).size) = False := eq_false (Nat.not_lt.2 c10)
              obtain rfl := Option.some.inj H
              obtain ⟨Ao11, co11, eo11⟩ := Kd.R_slice HO_5.out
              subst eo11
              go_wp2_with (first | ((with_reducible refine gate_callee (f := 103) rfl ?_); refine goesL_ (some 31) rfl rfl Tryz.func103 (by kernel_rfl) rfl #[.slice Ao11 x5_2.length co11] rfl (by (try simp only [List.map_toArray, List.map_cons, List.map_nil]); first | done | rfl | (simp only [List.length_drop, List.length_take]; rfl)) ?_; (with_reducible refine (slices_Reverse_byte_byte.calls k2 (fun k_ => some k_ = (.slice Ao11 x5_2.length co11 : Value).ownBlock) (.slice Ao11 x5_2.length co11) x5_2 t203 w _ ?side1 ?side2 A9.out).mono ?_); (case side1 => repeat (first | (with_reducible first | exact HB.out | apply below_alloc | apply pw_below_drewN | apply below_drew1) | exact HB.out)); (case side2 => exact Kd.R_tight rfl HO_5.out); rintro e w12 ⟨rfl, hy0, hb, hkp⟩; refine ⟨_, rfl, ?_⟩; have n0_ := Aside0.mk (Kd.R_reok rfl hy0 (fun k_ e_ => HO_5.out.1 k_ e_)); have n1_ := Aside0.mk (hb); clear HO_5; clear HB; have HO_5 := n0_; have HB := n1_; clear n0_ n1_; (try clear hb); (try clear hkp); (try clear hy0); have hcv13 := own_string (P := Tryz.prog) Tryz.underlying46 Tryz.underlying5 Tryz.underlying9 (Kd.own_of_R HO_5.out)))
              go_ret
              exact ⟨by first | rfl | (simp [errW_none, errW_some] <;> rfl) | (simp [*, errW_none, errW_some] <;> rfl), by repeat (first | (with_reducible first | exact HB.out | apply below_alloc | apply pw_below_drewN | apply below_drew1) | exact HB.out)⟩
            · rw [if_neg c10] at H
              exact absurd H (by simp)
end Go.Proofs.YtcmcopieagpppaaGreatDoor.P
namespace Go.Proofs.YtcmcopieagpppaaGreatDoor.P
open Go.RowKit Go.Proofs.YtcmcopieagpppaaGreatDoorW.PrintWords Go.Proofs.YtcmcopieagpppaaGreatDoorW.PrintLast Go.Proofs.YtcmcopieagpppaaGreatDoorW.PrintMore
set_option linter.unusedVariables false
set_option linter.unusedSimpArgs false
theorem shl_u64 (n m : Nat) (hm : m ≤ 64) (h : n * 2 ^ m < 18446744073709551616) : shl .u64 (n : Int) (m : Int) = ((n * 2 ^ m : Nat) : Int) := by
  unfold shl
  rw [Nat.min_eq_left (by show ((m : Int)).toNat ≤ 64; omega), Int.toNat_natCast]
  have : (n : Int) * 2 ^ m = ((n * 2 ^ m : Nat) : Int) := by simp
  rw [this, u64_small (by omega) (by omega)]
theorem numberFrom_one (v left : Nat) (p : List UInt8) : Web.numberFrom v left [p] = match Web.part p with
    | none => none
    | some n => if n < 2 ^ (8 * left) then some (v + n) else none := by
  rw [Web.numberFrom]
  cases Web.part p <;> rfl
theorem numberFrom_more (v left : Nat) (p q : List UInt8) (r : List (List UInt8)) : Web.numberFrom v left (p :: q :: r) = match Web.part p with
    | none => none
    | some n => if 255 < n then none else Web.numberFrom (v + n * 2 ^ (8 * (left - 1))) (left - 1) (q :: r) := by
  rw [Web.numberFrom]
  cases Web.part p <;> rfl
def pairOf (o : Option Nat) : Int × Bool := match o with
  | some n => ((n : Int), true)
  | none => (0, false)
theorem number_loop (L : List (List UInt8)) (hL : L.length ≤ 4) (hs : ∀ p ∈ L, p.length ≤ 8796093022200) (K : Nat) (hK : 8796093022220 < K) : ∀ d i k (v : Nat), i + d + 1 = L.length → 2 * d + K < k → v + 2 ^ (8 * (4 - i)) ≤ 4294967296 →
    parapetref9_Number.l0 k (L.map ba) (v : Int) (i : Int) = some (pairOf (Web.numberFrom v (4 - i) (L.drop i)))
  | 0, i, k, v, hi, hk, hv => by
    obtain ⟨k, rfl⟩ : ∃ m, k = m + 3 := ⟨k - 3, by omega⟩
    have hi' : i < L.length := by omega
    have hp := hs L[i] (List.getElem_mem hi')
    have hsh : shl .u64 1 ((8 * (5 - L.length) : Nat) : Int) = ((2 ^ (8 * (4 - i)) : Nat) : Int) := by
      have := shl_u64 1 (8 * (5 - L.length)) (by omega) (by
        have : 2 ^ (8 * (5 - L.length)) ≤ 2 ^ 32 := Nat.pow_le_pow_right (by omega) (by omega)
        omega)
      rw [show (4 - i) = 5 - L.length from by omega]
      simpa using this
    have hw : wrap64 (8 * wrap64 (5 - (L.length : Int))) = ((8 * (5 - L.length) : Nat) : Int) := by unfold wrap64; omega
    simp only [parapetref9_Number.l0]
    rw [if_pos (by rw [List.length_map]; omega), if_pos (by omega), rdOf_ba L i hi', ref_part_eq _ (by omega) _ (by omega), List.length_map, wrap_up (by omega), hw, hsh]
    simp only [Option.bind_some]
    rw [show L.drop i = [L[i]] from by rw [List.drop_eq_getElem_cons hi', List.drop_eq_nil_of_le (by omega)], numberFrom_one]
    unfold partP
    cases e : Web.part L[i] with
    | none =>
      rw [if_neg (by simp)]
      simp only [parapetref9_Number.j1]
      rfl
    | some n =>
      have hn := part_lt _ _ e
      dsimp only
      have h2 : 2 ^ (8 * (4 - i)) ≤ 2 ^ 32 := Nat.pow_le_pow_right (by omega) (by omega)
      rw [if_pos rfl, if_neg (by omega), if_pos (by omega), if_pos (by omega)]
      simp only [parapetref9_Number.j1]
      by_cases hlt : n < 2 ^ (8 * (4 - i))
      · rw [if_neg (by rw [decide_eq_true_eq]; omega), wrap_up (by omega), if_neg (by rw [List.length_map]; omega), u64_small (by omega) (by omega)]
        simp only [parapetref9_Number.l0]
        rw [if_neg (by rw [List.length_map]; omega), if_pos hlt]
        unfold pairOf
        simp only []
        congr 2
        omega
      · rw [if_pos (by rw [decide_eq_true_eq]; omega), if_neg hlt]
        rfl
  | d + 1, i, k, v, hi, hk, hv => by
    obtain ⟨k, rfl⟩ : ∃ m, k = m + 3 := ⟨k - 3, by omega⟩
    have hi' : i < L.length := by omega
    have hi2 : i + 1 < L.length := by omega
    have hp := hs L[i] (List.getElem_mem hi')
    have hw3 : wrap64 (8 * wrap64 (3 - (i : Int))) = ((8 * (3 - i) : Nat) : Int) := by unfold wrap64; omega
    simp only [parapetref9_Number.l0]
    rw [if_pos (by rw [List.length_map]; omega), if_pos (by omega), rdOf_ba L i hi', ref_part_eq _ (by omega) _ (by omega), List.length_map, wrap_up (by omega)]
    simp only [Option.bind_some]
    rw [List.drop_eq_getElem_cons hi', List.drop_eq_getElem_cons hi2, numberFrom_more]
    unfold partP
    cases e : Web.part L[i] with
    | none =>
      rw [if_neg (by simp)]
      simp only [parapetref9_Number.j1]
      rfl
    | some n =>
      have hn := part_lt _ _ e
      dsimp only
      rw [if_pos rfl, if_pos (by omega)]
      by_cases hlt : 255 < n
      · rw [if_pos (by omega), if_pos hlt]
        simp only [parapetref9_Number.j1]
        rfl
      · rw [if_neg (by omega), if_neg (by omega)]
        have h4 : 2 ^ (8 * (4 - i)) = 256 * 2 ^ (8 * (4 - i - 1)) := by
          rw [show 8 * (4 - i) = 8 + 8 * (4 - i - 1) from by omega, Nat.pow_add]
        have h5 : n * 2 ^ (8 * (4 - i - 1)) ≤ 255 * 2 ^ (8 * (4 - i - 1)) := Nat.mul_le_mul_right _ (by omega)
        have hsh : shl .u64 (n : Int) ((8 * (3 - i) : Nat) : Int) = ((n * 2 ^ (8 * (4 - i - 1)) : Nat) : Int) := by
          have := shl_u64 n (8 * (3 - i)) (by omega) (by rw [show 3 - i = 4 - i - 1 from by omega]; omega)
          rw [this, show 3 - i = 4 - i - 1 from by omega]
        simp only [parapetref9_Number.j1]
        rw [if_neg (by simp), wrap_up (by omega), if_pos (by rw [List.length_map]; omega), hw3, if_pos (by omega), hsh, u64_small (by omega) (by omega),
          show (v : Int) + ((n * 2 ^ (8 * (4 - i - 1)) : Nat) : Int) = ((v + n * 2 ^ (8 * (4 - i - 1)) : Nat) : Int) from by omega,
          number_loop L hL hs K hK d (i + 1) (k + 1) (v + n * 2 ^ (8 * (4 - i - 1))) (by omega) (by omega) (by rw [show 4 - (i + 1) = 4 - i - 1 from by omega]; omega),
          if_neg hlt, List.drop_eq_getElem_cons hi2, show 4 - (i + 1) = 4 - i - 1 from by omega]
theorem ref_number_eq (l : List UInt8) (hl : l.length < 8796093022200) (k : Nat) (hk : 8796093022300 < k) : parapetref9_Number.f k (ba l) = some (pairOf (Web.number l)) := by
  unfold parapetref9_Number.f
  rw [parts_eq l k hl (by omega)]
  simp only [Option.bind_some, List.length_map]
  unfold Web.number
  by_cases h : 4 < (Web.partsOf l).length
  · rw [if_pos (by omega), if_pos h]
    rfl
  · rw [if_neg (by omega), if_neg h]
    have hne := List.length_pos_iff.2 (partsOf_ne l)
    have := number_loop (Web.partsOf l) (by omega) (fun p hp => by have := partsOf_piece l p hp; omega) 8796093022221 (by omega) ((Web.partsOf l).length - 1) 0 k 0 (by omega) (by omega) (by decide)
    exact this
theorem numberFrom_lt : ∀ (L : List (List UInt8)) (v left n : Nat), L.length ≤ left → v + 2 ^ (8 * left) ≤ 4294967296 → Web.numberFrom v left L = some n → n < 4294967296
  | [], v, left, n, _, _, h => by simp [Web.numberFrom] at h
  | [p], v, left, n, hl, hv, h => by
    rw [numberFrom_one] at h
    cases e : Web.part p with
    | none => rw [e] at h; cases h
    | some m =>
      rw [e] at h
      simp only [] at h
      split at h
      · injection h with h; omega
      · cases h
  | p :: q :: r, v, left, n, hl, hv, h => by
    rw [numberFrom_more] at h
    cases e : Web.part p with
    | none => rw [e] at h; cases h
    | some m =>
      rw [e] at h
      simp only [] at h
      split at h
      · cases h
      · rename_i hm
        have h4 : 2 ^ (8 * left) = 256 * 2 ^ (8 * (left - 1)) := by
          simp only [List.length_cons] at hl
          rw [show 8 * left = 8 + 8 * (left - 1) from by omega, Nat.pow_add]
        have h5 : m * 2 ^ (8 * (left - 1)) ≤ 255 * 2 ^ (8 * (left - 1)) := Nat.mul_le_mul_right _ (by omega)
        exact numberFrom_lt (q :: r) _ _ n (by simp only [List.length_cons] at hl ⊢; omega) (by omega) h
theorem number_lt (l : List UInt8) (n : Nat) (h : Web.number l = some n) : n < 4294967296 := by
  unfold Web.number at h
  split at h
  · cases h
  · exact numberFrom_lt _ 0 4 n (by omega) (by decide) h
def revDig (n : Nat) : List UInt8 := if h : n = 0 then [] else UInt8.ofNat (48 + n % 10) :: revDig (n / 10)
  termination_by n
  decreasing_by omega
theorem revDig_zero : revDig 0 = [] := by rw [revDig]; simp
theorem revDig_pos (n : Nat) (h : n ≠ 0) : revDig n = UInt8.ofNat (48 + n % 10) :: revDig (n / 10) := by rw [revDig]; simp [h]
theorem decimal_rev (n : Nat) (h : n ≠ 0) : Web.decimal n = (revDig n).reverse := by
  induction n using Nat.strongRecOn with
  | ind n ih =>
    rw [Web.decimal, revDig_pos n h]
    by_cases h1 : n < 10
    · rw [if_pos h1, show n / 10 = 0 from by omega, revDig_zero, show n % 10 = n from by omega]
      rfl
    · rw [if_neg h1, ih (n / 10) (by omega) (by omega), List.reverse_cons]
theorem decimal_zero : Web.decimal 0 = [48] := by rw [Web.decimal]; rfl
theorem revDig_len (m : Nat) : ∀ n, n < 10 ^ m → (revDig n).length ≤ m := by
  induction m with
  | zero => intro n h; have : n = 0 := by omega
            subst this; rw [revDig_zero]; simp
  | succ m ih =>
    intro n h
    by_cases h0 : n = 0
    · subst h0; rw [revDig_zero]; simp
    · rw [revDig_pos n h0, List.length_cons]
      have := ih (n / 10) (by rw [Nat.pow_succ] at h; omega)
      omega
theorem decimal_len (n : Nat) (h : n < 18446744073709551616) : (Web.decimal n).length ≤ 20 := by
  by_cases h0 : n = 0
  · subst h0; rw [decimal_zero]; simp
  · rw [decimal_rev n h0, List.length_reverse]
    exact revDig_len 20 n (by omega)
theorem digit_byte (n : Nat) : IntKind.u64.wrap (48 + Int.tmod (n : Int) 10) % 256 = ((UInt8.ofNat (48 + n % 10)).toNat : Int) := by
  have h1 : Int.tmod (n : Int) 10 = ((n % 10 : Nat) : Int) := by rw [Int.tmod_eq_emod_of_nonneg (by omega)]; omega
  rw [h1, u64_small (by omega) (by omega), UInt8.toNat_ofNat']
  omega
theorem tdiv_ten (n : Nat) (h : n < 18446744073709551616) : IntKind.u64.wrap (Int.tdiv (n : Int) 10) = ((n / 10 : Nat) : Int) := by
  have h1 : Int.tdiv (n : Int) 10 = ((n / 10 : Nat) : Int) := by rw [Int.tdiv_eq_ediv_of_nonneg (by omega)]; omega
  rw [h1, u64_small (by omega) (by omega)]
theorem dec_l1 (X : List UInt8) : ∀ (m : Nat) (k : Nat) (acc : List UInt8), m ≤ X.length → X.length < 1000000 → acc.length + m < 140737488355328 → m < k →
    parapetref1_Decimal.l1 k (nums8 X) (nums8 acc) ((m : Int) - 1) = some (ba (acc ++ (X.take m).reverse))
  | 0, k, acc, hm, hX, ha, hk => by
    obtain ⟨k, rfl⟩ : ∃ m, k = m + 1 := ⟨k - 1, by omega⟩
    simp only [parapetref1_Decimal.l1]
    rw [if_neg (by omega), str_nums8]
    simp
  | m + 1, k, acc, hm, hX, ha, hk => by
    obtain ⟨k, rfl⟩ : ∃ m, k = m + 1 := ⟨k - 1, by omega⟩
    have hm' : m < X.length := by omega
    have hrd : rd (nums8 X) (((m + 1 : Nat) : Int) - 1) = (X[m].toNat : Int) := by
      rw [show (((m + 1 : Nat) : Int) - 1) = (m : Int) from by omega]
      unfold rd nums8
      simp [List.getD_eq_getElem?_getD, List.getElem?_eq_getElem hm']
    simp only [parapetref1_Decimal.l1]
    rw [if_pos (by omega), if_pos (by omega), if_pos (by rw [nums8_len]; omega), if_pos (by rw [nums8_len]; omega), hrd, nums8_snoc,
      show wrap64 (((m + 1 : Nat) : Int) - 1 - 1) = (m : Int) - 1 from by unfold wrap64; omega,
      dec_l1 X m k (acc ++ [X[m]]) (by omega) hX (by rw [List.length_append, List.length_singleton]; omega) (by omega),
      List.take_succ_eq_append_getElem hm', List.reverse_append]
    simp
theorem dec_l0 : ∀ (u : Nat) (k : Nat) (n : Int) (acc : List UInt8), 0 ≤ n → u < 18446744073709551616 → acc.length + (revDig u).length < 100000 → 2 * (revDig u).length + acc.length + 10 < k →
    parapetref1_Decimal.l0 k n (u : Int) (nums8 acc) = some (ba (acc ++ revDig u).reverse) := by
  intro u
  induction u using Nat.strongRecOn with
  | ind u ih =>
    intro k n acc hn hu hl hk
    obtain ⟨k, rfl⟩ : ∃ m, k = m + 2 := ⟨k - 2, by omega⟩
    rw [parapetref1_Decimal.l0.eq_def]
    simp only []
    by_cases h0 : u = 0
    · subst h0
      rw [revDig_zero] at hk ⊢
      rw [if_neg (by simp), if_neg (by omega)]
      simp only [parapetref1_Decimal.j2]
      rw [nums8_len, show wrap64 ((acc.length : Int) - 1) = (acc.length : Int) - 1 from by unfold wrap64; omega]
      have := dec_l1 acc acc.length k [] (Nat.le_refl _) (by omega) (by simp; omega) (by simp at hk; omega)
      rw [List.take_length] at this
      simpa [nums8] using this
    · have hr := revDig_pos u h0
      rw [hr] at hl hk ⊢
      rw [List.length_cons] at hl hk
      rw [if_pos (by omega), if_pos (by rw [nums8_len]; omega), tdiv_ten u hu, digit_byte, nums8_snoc,
        ih (u / 10) (by omega) (k + 1) n _ hn (by omega) (by rw [List.length_append, List.length_singleton]; omega) (by rw [List.length_append, List.length_singleton]; omega)]
      simp
theorem ref_decimal_eq (n : Nat) (h : n < 9223372036854775808) (k : Nat) (hk : 100 < k) : parapetref1_Decimal.f k (n : Int) = some (ba (Web.decimal n)) := by
  obtain ⟨k, rfl⟩ : ∃ m, k = m + 1 := ⟨k - 1, by omega⟩
  unfold parapetref1_Decimal.f
  by_cases h0 : n = 0
  · subst h0; rw [if_pos (by rfl), decimal_zero]; rfl
  · rw [if_neg (by omega), if_neg (by omega), u64_small (by omega) (by omega), decimal_rev n h0]
    simp only [parapetref1_Decimal.j0]
    have hl := revDig_len 20 n (by omega)
    have := dec_l0 n k (n : Int) [] (by omega) (by omega) (by simp; omega) (by simp; omega)
    simpa [nums8] using this
theorem reverse_loop (n : Nat) (hn : n < 4611686018427387904) : ∀ (d : Nat) (x : List Int) (i j k : Nat), x.length = n → j < n → i ≤ j + 1 → d = j + 1 - i → d < k →
    ∃ r, slices_Reverse_byte_byte.l0 k x (i : Int) (j : Int) = some r ∧ r.length = n ∧ ∀ p, p < n → r[p]? = if i ≤ p ∧ p ≤ j then x[i + j - p]? else x[p]? := by
  intro d
  induction d using Nat.strongRecOn with
  | ind d ih =>
    intro x i j k hx hj hij hd hk
    obtain ⟨k, rfl⟩ : ∃ m, k = m + 1 := ⟨k - 1, by omega⟩
    simp only [slices_Reverse_byte_byte.l0]
    by_cases hlt : i < j
    · rw [if_pos (by omega), if_pos (by omega), if_pos (by omega), if_pos (by omega), if_pos (by omega), wrap_up (by omega), show wrap64 ((j : Int) - 1) = ((j - 1 : Nat) : Int) from by unfold wrap64; omega]
      have hxi : i < x.length := by omega
      have hxj : j < x.length := by omega
      have ri : rd x (i : Int) = x[i] := by unfold rd; simp [List.getD_eq_getElem?_getD, List.getElem?_eq_getElem hxi]
      have rj : rd x (j : Int) = x[j] := by unfold rd; simp [List.getD_eq_getElem?_getD, List.getElem?_eq_getElem hxj]
      rw [ri, rj, Int.toNat_natCast, Int.toNat_natCast]
      obtain ⟨r, hr, hrl, hrp⟩ := ih (d - 2) (by omega) ((x.set i x[j]).set j x[i]) (i + 1) (j - 1) k (by simp [hx]) (by omega) (by omega) (by omega) (by omega)
      refine ⟨r, hr, hrl, fun p hp => ?_⟩
      rw [hrp p hp]
      by_cases e1 : i ≤ p ∧ p ≤ j
      · rw [if_pos e1]
        by_cases e2 : p = i
        · subst e2
          rw [if_neg (by omega), List.getElem?_set_ne (by omega), List.getElem?_set_self (by omega), show p + j - p = j from by omega, List.getElem?_eq_getElem hxj]
        · by_cases e3 : p = j
          · subst e3
            rw [if_neg (by omega), List.getElem?_set_self (by simp; omega), show i + p - p = i from by omega, List.getElem?_eq_getElem hxi]
          · rw [if_pos (by omega), show i + 1 + (j - 1) - p = i + j - p from by omega, List.getElem?_set_ne (by omega), List.getElem?_set_ne (by omega)]
      · rw [if_neg e1, if_neg (by omega), List.getElem?_set_ne (by omega), List.getElem?_set_ne (by omega)]
    · rw [if_neg (by omega)]
      refine ⟨x, rfl, hx, fun p hp => ?_⟩
      by_cases e1 : i ≤ p ∧ p ≤ j
      · rw [if_pos e1, show i + j - p = p from by omega]
      · rw [if_neg e1]
theorem reverse_eq (x : List Int) (k : Nat) (hx : x.length < 4611686018427387904) (hk : x.length + 1 < k) : slices_Reverse_byte_byte.f k x = some x.reverse := by
  unfold slices_Reverse_byte_byte.f
  by_cases h0 : x = []
  · subst h0
    obtain ⟨k, rfl⟩ : ∃ m, k = m + 1 := ⟨k - 1, by omega⟩
    simp only [slices_Reverse_byte_byte.l0]
    rw [if_neg (by unfold wrap64; simp)]
    rfl
  · have hp := List.length_pos_iff.2 h0
    rw [show wrap64 ((x.length : Int) - 1) = ((x.length - 1 : Nat) : Int) from by unfold wrap64; omega]
    obtain ⟨r, hr, hrl, hrp⟩ := reverse_loop x.length (by omega) (x.length) x 0 (x.length - 1) k rfl (by omega) (by omega) (by omega) (by omega)
    refine hr.trans ?_
    congr 1
    apply List.ext_getElem?
    intro p
    by_cases hp' : p < x.length
    · rw [hrp p hp', if_pos (by omega), List.getElem?_reverse hp']
      congr 1
      omega
    · rw [List.getElem?_eq_none (by omega), List.getElem?_eq_none (by rw [List.length_reverse]; omega)]
theorem adec_l0 (sg : ByteArray) (hs : sg.size ≤ 1) : ∀ (u : Nat) (k : Nat) (acc : List UInt8), u < 18446744073709551616 → acc.length + (revDig u).length < 100000 → 2 * (revDig u).length + acc.length + 10 < k →
    ascii_Decimal.l0 k (u : Int) sg (nums8 acc) = some (sg ++ ba (acc ++ revDig u).reverse) := by
  intro u
  induction u using Nat.strongRecOn with
  | ind u ih =>
    intro k acc hu hl hk
    obtain ⟨k, rfl⟩ : ∃ m, k = m + 1 := ⟨k - 1, by omega⟩
    simp only [ascii_Decimal.l0]
    by_cases h0 : u = 0
    · subst h0
      rw [revDig_zero] at hk hl ⊢
      simp only [List.length_nil, Nat.add_zero, Nat.mul_zero, Nat.zero_add] at hk hl
      rw [if_neg (by simp), reverse_eq _ _ (by rw [nums8_len]; omega) (by rw [nums8_len]; omega)]
      simp only [Option.bind_some]
      have e : strOfNums (nums8 acc).reverse = ba acc.reverse := by
        rw [← str_nums8]; congr 1; simp [nums8]
      rw [e, if_pos (by rw [ba_size, List.length_reverse]; omega)]
      simp
    · have hr := revDig_pos u h0
      rw [hr] at hl hk ⊢
      rw [List.length_cons] at hl hk
      rw [if_pos (by omega), if_pos (by rw [nums8_len]; omega), tdiv_ten u hu, digit_byte, nums8_snoc,
        ih (u / 10) (by omega) k _ (by omega) (by rw [List.length_append, List.length_singleton]; omega) (by rw [List.length_append, List.length_singleton]; omega)]
      simp
theorem ascii_decimal_eq (n : Nat) (h : n < 9223372036854775808) (k : Nat) (hk : 100 < k) : ascii_Decimal.f k (n : Int) = some (ba (Web.decimal n)) := by
  obtain ⟨k, rfl⟩ : ∃ m, k = m + 1 := ⟨k - 1, by omega⟩
  unfold ascii_Decimal.f
  rw [if_neg (by omega), u64_small (by omega) (by omega)]
  simp only [ascii_Decimal.j0]
  rw [tdiv_ten n (by omega), digit_byte]
  have hl := revDig_len 20 (n / 10) (by omega)
  have := adec_l0 (⟨#[]⟩ : ByteArray) (by decide) (n / 10) k [UInt8.ofNat (48 + n % 10)] (by omega) (by simp; omega) (by simp; omega)
  refine this.trans ?_
  congr 1
  have e : Web.decimal n = ([UInt8.ofNat (48 + n % 10)] ++ revDig (n / 10)).reverse := by
    by_cases h0 : n = 0
    · subst h0; rw [decimal_zero, revDig_zero]; rfl
    · rw [decimal_rev n h0, revDig_pos n h0]; rfl
  rw [e]
  exact ba_append [] _
end Go.Proofs.YtcmcopieagpppaaGreatDoor.P
namespace Go.Proofs.YtcmcopieagpppaaGreatDoor.P
open Go.RowKit Go.Proofs.YtcmcopieagpppaaGreatDoorW.PrintWords Go.Proofs.YtcmcopieagpppaaGreatDoorW.PrintLast Go.Proofs.YtcmcopieagpppaaGreatDoorW.PrintMore
set_option linter.unusedVariables false
set_option linter.unusedSimpArgs false
theorem ascii_decimal_calls (x : Int) (w : World) (h0 : 0 ≤ x) (h1 : x < 9223372036854775808) :
    Calls Tryz.prog 69 #[.int .i64 x] w fun e w' => e = .returned (.string (ba (Web.decimal x.toNat))) ∧ Below w.heap.size w w' := by
  obtain ⟨n, rfl⟩ := Int.eq_ofNat_of_zero_le h0
  exact ascii_Decimal.calls 101 _ _ w (ascii_decimal_eq n (by omega) 101 (by omega))
theorem ref_decimal_calls (x : Int) (w : World) (h0 : 0 ≤ x) (h1 : x < 9223372036854775808) :
    Calls Tryz.prog 70 #[.int .i64 x] w fun e w' => e = .returned (.string (ba (Web.decimal x.toNat))) ∧ Below w.heap.size w w' := by
  obtain ⟨n, rfl⟩ := Int.eq_ofNat_of_zero_le h0
  exact parapetref1_Decimal.calls 101 _ _ w (ref_decimal_eq n (by omega) 101 (by omega))
theorem and_255 (x : Int) (h0 : 0 ≤ x) (h1 : x < 4294967296) : Go.bits .and .u32 x 255 = x % 256 := by
  obtain ⟨n, rfl⟩ := Int.eq_ofNat_of_zero_le h0
  have h := u32_and_nat n 255 (by omega) (by omega)
  have e : n &&& 255 = n % 256 := Nat.and_two_pow_sub_one_eq_mod n 8
  rw [e] at h
  exact h.trans (by omega)
theorem ascii_decimal_out (x : Int) (w : World) (h0 : 0 ≤ x) (h1 : x < 9223372036854775808) :
    Calls Tryz.prog 69 #[.int .i64 x] w fun e w' => ∃ d : ByteArray, e = .returned (.string d) ∧ Hid (d = ba (Web.decimal x.toNat)) ∧ d.size ≤ 20 ∧ Below w.heap.size w w' :=
  (ascii_decimal_calls x w h0 h1).mono fun _ _ ⟨he, hb⟩ => ⟨_, he, Lib.hid rfl, by rw [ba_size]; exact decimal_len _ (by omega), hb⟩
theorem ref_decimal_out (x : Int) (w : World) (h0 : 0 ≤ x) (h1 : x < 9223372036854775808) :
    Calls Tryz.prog 70 #[.int .i64 x] w fun e w' => ∃ d : ByteArray, e = .returned (.string d) ∧ Hid (d = ba (Web.decimal x.toNat)) ∧ d.size ≤ 20 ∧ Below w.heap.size w w' :=
  (ref_decimal_calls x w h0 h1).mono fun _ _ ⟨he, hb⟩ => ⟨_, he, Lib.hid rfl, by rw [ba_size]; exact decimal_len _ (by omega), hb⟩
set_option maxRecDepth 100000 in
set_option maxHeartbeats 1000000 in
theorem host_text_walk (a : Int) (w : World) (h0 : 0 ≤ a) (h1 : a < 4294967296) :
    Calls Tryz.prog 107 #[.int .u32 a] w fun e w' => e = .returned (.string (ba (Web.addrText a.toNat))) ∧ Below w.heap.size w w' := by
  have e1 := and_255 (a / 65536) (by omega) (by omega)
  have e2 := and_255 (a / 256) (by omega) (by omega)
  have e3 := and_255 a (by omega) (by omega)
  go_enter Tryz.func107, Tryz.ntmps107
  go_wp2_with fail
  refine (ascii_decimal_out _ _ (by omega) (by omega)).mono ?_
  rintro e w1 ⟨d1, rfl, H1, s1, b1⟩
  go_wp2_with fail
  refine (ascii_decimal_out _ _ (by omega) (by omega)).mono ?_
  rintro e w2 ⟨d2, rfl, H2, s2, b2⟩
  go_wp2_with fail
  refine (ascii_decimal_out _ _ (by omega) (by omega)).mono ?_
  rintro e w3 ⟨d3, rfl, H3, s3, b3⟩
  go_wp2_with fail
  refine (ascii_decimal_out _ _ (by omega) (by omega)).mono ?_
  rintro e w4 ⟨d4, rfl, H4, s4, b4⟩
  go_wp2_with fail
  go_ret
  refine ⟨?_, below_step (below_step (below_step b1 b2) b3) b4⟩
  have fin : d1 ++ (⟨#[46]⟩ : ByteArray) ++ d2 ++ ⟨#[46]⟩ ++ d3 ++ ⟨#[46]⟩ ++ d4 = ba (Web.addrText a.toNat) := by
    rw [H1.out, H2.out, H3.out, H4.out, show (⟨#[46]⟩ : ByteArray) = ba [46] from rfl]
    simp only [ba_append]
    unfold Web.addrText
    rw [show (a / 16777216).toNat = a.toNat / 16777216 from by omega, show (a / 65536 % 256).toNat = a.toNat / 65536 % 256 from by omega,
      show (a / 256 % 256).toNat = a.toNat / 256 % 256 from by omega, show (a % 256).toNat = a.toNat % 256 from by omega]
  rw [← fin]
  rfl
theorem size46 : (⟨#[46]⟩ : ByteArray).size = 1 := rfl
def addrPre (a : Int) (i : Int) : ByteArray :=
  if i = 3 then ⟨#[]⟩ else if i = 2 then ba (Web.decimal (a / 16777216 % 256).toNat) ++ ⟨#[46]⟩
  else if i = 1 then ba (Web.decimal (a / 16777216 % 256).toNat) ++ ⟨#[46]⟩ ++ ba (Web.decimal (a / 65536 % 256).toNat) ++ ⟨#[46]⟩
  else if i = 0 then ba (Web.decimal (a / 16777216 % 256).toNat) ++ ⟨#[46]⟩ ++ ba (Web.decimal (a / 65536 % 256).toNat) ++ ⟨#[46]⟩ ++ ba (Web.decimal (a / 256 % 256).toNat) ++ ⟨#[46]⟩
  else ba (Web.decimal (a / 16777216 % 256).toNat) ++ ⟨#[46]⟩ ++ ba (Web.decimal (a / 65536 % 256).toNat) ++ ⟨#[46]⟩ ++ ba (Web.decimal (a / 256 % 256).toNat) ++ ⟨#[46]⟩ ++ ba (Web.decimal (a % 256).toNat)
set_option maxRecDepth 100000 in
set_option maxHeartbeats 2000000 in
theorem ref_address_walk (a : Int) (w : World) (h0 : 0 ≤ a) (h1 : a < 4294967296) :
    Calls Tryz.prog 110 #[.int .u32 a] w fun e w' => e = .returned (.string (ba (Web.addrText a.toNat))) ∧ Below w.heap.size w w' := by
  have e0 := and_255 (a / 16777216) (by omega) (by omega)
  have e1 := and_255 (a / 65536) (by omega) (by omega)
  have e2 := and_255 (a / 256) (by omega) (by omega)
  have e3 := and_255 a (by omega) (by omega)
  go_enter Tryz.func110, Tryz.ntmps110
  go_wp2
  go_loopw [3, 4] (fun s v wr => ∃ (d : ByteArray) (i : Int), s = .string d ∧ v = .int .i64 i ∧ Hid (d = addrPre a i) ∧ (i = 3 ∨ i = 2 ∨ i = 1 ∨ i = 0 ∨ i = -1) ∧ d.size ≤ 21 * (3 - i).toNat ∧ Below w.heap.size w wr) (fun _ v _ => (intOf v + 1).toNat)
  case atStart => exact ⟨⟨#[]⟩, 3, rfl, rfl, Lib.hid rfl, .inl rfl, Nat.zero_le _, Below.refl _ _⟩
  case round =>
    obtain ⟨d, i, rfl, rfl, HD, hi, hs, hb⟩ := hrel
    rcases hi with rfl | rfl | rfl | rfl | rfl
    · have hs' : d.size ≤ 0 := by simpa using hs
      clear hs
      go_wp2_with fail
      refine (ref_decimal_out _ _ (by omega) (by omega)).mono ?_
      rintro e w1 ⟨d1, rfl, H1, s1, b1⟩
      go_wp2_with fail
      go_roundw
      case rel => exact ⟨_, 2, rfl, rfl, Lib.hid (by rw [HD.out, H1.out]; rfl), by simp, by have := size46; simp; omega, below_step hb b1⟩
      case measure => simp [intOf]
    · have hs' : d.size ≤ 21 := by simpa using hs
      clear hs
      go_wp2_with fail
      refine (ref_decimal_out _ _ (by omega) (by omega)).mono ?_
      rintro e w1 ⟨d1, rfl, H1, s1, b1⟩
      go_wp2_with fail
      go_roundw
      case rel => exact ⟨_, 1, rfl, rfl, Lib.hid (by rw [HD.out, H1.out]; rfl), by simp, by have := size46; simp; omega, below_step hb b1⟩
      case measure => simp [intOf]
    · have hs' : d.size ≤ 42 := by simpa using hs
      clear hs
      go_wp2_with fail
      refine (ref_decimal_out _ _ (by omega) (by omega)).mono ?_
      rintro e w1 ⟨d1, rfl, H1, s1, b1⟩
      go_wp2_with fail
      go_roundw
      case rel => exact ⟨_, 0, rfl, rfl, Lib.hid (by rw [HD.out, H1.out]; rfl), by simp, by have := size46; simp; omega, below_step hb b1⟩
      case measure => simp [intOf]
    · have hs' : d.size ≤ 63 := by simpa using hs
      clear hs
      go_wp2_with fail
      refine (ref_decimal_out _ _ (by omega) (by omega)).mono ?_
      rintro e w1 ⟨d1, rfl, H1, s1, b1⟩
      go_wp2_with fail
      go_roundw
      case rel => exact ⟨_, -1, rfl, rfl, Lib.hid (by rw [HD.out, H1.out]; rfl), by simp, by have := size46; simp; omega, below_step hb b1⟩
      case measure => simp [intOf]
    · clear hs
      have fin : d = ba (Web.addrText a.toNat) := by
        rw [HD.out]
        unfold addrPre Web.addrText
        rw [if_neg (by decide), if_neg (by decide), if_neg (by decide), if_neg (by decide), show (⟨#[46]⟩ : ByteArray) = ba [46] from rfl]
        simp only [ba_append]
        rw [show (a / 16777216 % 256).toNat = a.toNat / 16777216 from by omega, show (a / 65536 % 256).toNat = a.toNat / 65536 % 256 from by omega,
          show (a / 256 % 256).toNat = a.toNat / 256 % 256 from by omega, show (a % 256).toNat = a.toNat % 256 from by omega]
      have FIN := Lib.hid fin
      clear fin
      go_wp2
      go_ret
      exact ⟨by rw [← FIN.out]; rfl, hb⟩
def host_Text.f (a0 : Int) : Option ByteArray := if 0 ≤ a0 ∧ a0 < 4294967296 then some (ba (Web.addrText a0.toNat)) else none
theorem host_Text.calls (a0 : Int) (r : ByteArray) (w : World) (h : host_Text.f a0 = some r) :
    Calls Tryz.prog 107 #[.int .u32 a0] w fun e w' => e = .returned (.string r) ∧ Below w.heap.size w w' := by
  unfold host_Text.f at h
  by_cases hs : 0 ≤ a0 ∧ a0 < 4294967296
  · rw [if_pos hs] at h
    replace h := Option.some.inj h
    subst h
    exact host_text_walk a0 w hs.1 hs.2
  · rw [if_neg hs] at h
    cases h
def parapetref9_Address.f (a0 : Int) : Option ByteArray := if 0 ≤ a0 ∧ a0 < 4294967296 then some (ba (Web.addrText a0.toNat)) else none
theorem parapetref9_Address.calls (a0 : Int) (r : ByteArray) (w : World) (h : parapetref9_Address.f a0 = some r) :
    Calls Tryz.prog 110 #[.int .u32 a0] w fun e w' => e = .returned (.string r) ∧ Below w.heap.size w w' := by
  unfold parapetref9_Address.f at h
  by_cases hs : 0 ≤ a0 ∧ a0 < 4294967296
  · rw [if_pos hs] at h
    replace h := Option.some.inj h
    subst h
    exact ref_address_walk a0 w hs.1 hs.2
  · rw [if_neg hs] at h
    cases h
end Go.Proofs.YtcmcopieagpppaaGreatDoor.P
namespace Go.Proofs.YtcmcopieagpppaaGreatDoor.P
open Go.RowKit Go.Proofs.YtcmcopieagpppaaGreatDoorW.PrintWords Go.Proofs.YtcmcopieagpppaaGreatDoorW.PrintLast Go.Proofs.YtcmcopieagpppaaGreatDoorW.PrintMore
attribute [local go_sem] max2_int min2_int max_two min_two max_three min_three max_four min_four
set_option linter.unusedVariables false
set_option linter.unusedSimpArgs false
def parapetref9_Host.l0 : Nat → ByteArray → Int → Option (ByteArray × Int)
  | 0, _, _ => none
  | k + 1, x4, x5 => if x5 < (x4.size : Int) then (if 0 ≤ x5 then (if (bt x4 x5) ≤ 32 then (some ((⟨#[]⟩ : ByteArray), 8)) else (if (bt x4 x5) ≥ 127 then (some ((⟨#[]⟩ : ByteArray), 8)) else ((parapetref1_Has.f k (⟨#[35, 37, 47, 58, 60, 62, 63, 64, 91, 92, 93, 94, 124]⟩ : ByteArray) (bt x4 x5)).bind fun t179 => (if t179 = true then (some ((⟨#[]⟩ : ByteArray), 8)) else (parapetref9_Host.l0 k x4 (wrap64 (x5 + 1))))))) else (none)) else ((parapetref9_numeric.f k x4).bind fun t180 => (if t180 = true then ((parapetref9_Number.f k x4).bind fun bt181 => (if bt181.2 = true then ((parapetref9_Address.f bt181.1).bind fun t183 => (some (t183, 0))) else (some ((⟨#[]⟩ : ByteArray), 8)))) else (some (x4, 0))))
def parapetref9_Host.f (k : Nat) (a0 : ByteArray) : Option (ByteArray × Int) := (parapetref9_Decode.f k a0).bind fun t177 => ((parapetref1_Lower.f k t177).bind fun t178 => (if t178.toList = ([] : List UInt8) then (some ((⟨#[]⟩ : ByteArray), 8)) else (parapetref9_Host.l0 k t178 0)))
set_option maxHeartbeats 8000000 in
set_option maxRecDepth 100000 in
theorem parapetref9_Host.calls (k : Nat) (a0 : ByteArray) (r1 : ByteArray) (r2 : Int) (w : World) (h : parapetref9_Host.f k a0 = some (r1, r2)) :
    Calls Tryz.prog 99 #[.string a0] w fun e w' => e = .returned (.tuple #[.string r1, .int .i64 r2]) ∧ Below w.heap.size w w' := by
  have HB := Aside0.mk (Below.refl w.heap.size w)
  have H : ((parapetref9_Decode.f k a0).bind fun t177 => ((parapetref1_Lower.f k t177).bind fun t178 => (if t178.toList = ([] : List UInt8) then (some ((⟨#[]⟩ : ByteArray), 8)) else (parapetref9_Host.l0 k t178 0)))) = some (r1, r2) := h
  clear h
  replace H := Option.bind_eq_some_iff.mp H
  obtain ⟨t177, A20, H⟩ := H
  replace H : ((parapetref1_Lower.f k t177).bind fun t178 => (if t178.toList = ([] : List UInt8) then (some ((⟨#[]⟩ : ByteArray), 8)) else (parapetref9_Host.l0 k t178 0))) = some (r1, r2) := H
  have A2 := Aside0.mk A20
  clear A20
  replace H := Option.bind_eq_some_iff.mp H
  obtain ⟨t178, A30, H⟩ := H
  replace H : (if t178.toList = ([] : List UInt8) then (some ((⟨#[]⟩ : ByteArray), 8)) else (parapetref9_Host.l0 k t178 0)) = some (r1, r2) := H
  have A3 := Aside0.mk A30
  clear A30
  by_cases c4 : t178.toList = ([] : List UInt8)
  · rw [if_pos c4] at H
    have c4b0 : (t178.toList == ([] : List UInt8)) = true := beq_iff_eq.mpr c4
    have c4b1 : (t178.toList != ([] : List UInt8)) = false := bne_eq_false_iff_eq.mpr c4
    clear c4
    simp only [Option.some.injEq, Prod.mk.injEq] at H
    obtain ⟨rfl, rfl⟩ := H
    go_enter Tryz.func99, Tryz.ntmps99
    go_wp2_with (first | ((with_reducible refine gate_callee (f := 137) rfl ?_); refine goesL_ (some 9) rfl rfl Tryz.func137 (by kernel_rfl) rfl #[.string a0] rfl (by (try simp only [List.map_toArray, List.map_cons, List.map_nil]); first | done | rfl | (simp only [List.length_drop, List.length_take]; rfl)) ?_; (with_reducible refine (parapetref9_Decode.calls k a0 t177 _ A2.out).mono ?_); rintro e w5 ⟨rfl, hb⟩; refine ⟨_, rfl, ?_⟩; have n0_ := Aside0.mk (below_step (by repeat (first | (with_reducible first | exact HB.out | apply below_alloc | apply pw_below_drewN | apply below_drew1) | exact HB.out)) hb); clear HB; have HB := n0_; clear n0_; (try clear hb); (try clear hb2); (try clear hk); (try clear hi)) | ((with_reducible refine gate_callee (f := 63) rfl ?_); refine goesL_ (some 10) rfl rfl Tryz.func63 (by kernel_rfl) rfl #[.string t177] rfl (by (try simp only [List.map_toArray, List.map_cons, List.map_nil]); first | done | rfl | (simp only [List.length_drop, List.length_take]; rfl)) ?_; (with_reducible refine (parapetref1_Lower.calls k t177 t178 _ A3.out).mono ?_); rintro e w6 ⟨rfl, hb⟩; refine ⟨_, rfl, ?_⟩; have n0_ := Aside0.mk (below_step (by repeat (first | (with_reducible first | exact HB.out | apply below_alloc | apply pw_below_drewN | apply below_drew1) | exact HB.out)) hb); clear HB; have HB := n0_; clear n0_; (try clear hb); (try clear hb2); (try clear hk); (try clear hi)))
    go_ret2
    exact ⟨by first | rfl | (simp [errW_none, errW_some] <;> rfl) | (simp [*, errW_none, errW_some] <;> rfl), by repeat (first | (with_reducible first | exact HB.out | apply below_alloc | apply pw_below_drewN | apply below_drew1) | exact HB.out)⟩
  · rw [if_neg c4] at H
    have c4b0 : (t178.toList == ([] : List UInt8)) = false := beq_eq_false_iff_ne.mpr c4
    have c4b1 : (t178.toList != ([] : List UInt8)) = true := bne_iff_ne.mpr c4
    have H' := Aside0.mk H
    clear H
    go_enter Tryz.func99, Tryz.ntmps99
    go_wp2_with (first | ((with_reducible refine gate_callee (f := 137) rfl ?_); refine goesL_ (some 9) rfl rfl Tryz.func137 (by kernel_rfl) rfl #[.string a0] rfl (by (try simp only [List.map_toArray, List.map_cons, List.map_nil]); first | done | rfl | (simp only [List.length_drop, List.length_take]; rfl)) ?_; (with_reducible refine (parapetref9_Decode.calls k a0 t177 _ A2.out).mono ?_); rintro e w7 ⟨rfl, hb⟩; refine ⟨_, rfl, ?_⟩; have n0_ := Aside0.mk (below_step (by repeat (first | (with_reducible first | exact HB.out | apply below_alloc | apply pw_below_drewN | apply below_drew1) | exact HB.out)) hb); clear HB; have HB := n0_; clear n0_; (try clear hb); (try clear hb2); (try clear hk); (try clear hi)) | ((with_reducible refine gate_callee (f := 63) rfl ?_); refine goesL_ (some 10) rfl rfl Tryz.func63 (by kernel_rfl) rfl #[.string t177] rfl (by (try simp only [List.map_toArray, List.map_cons, List.map_nil]); first | done | rfl | (simp only [List.length_drop, List.length_take]; rfl)) ?_; (with_reducible refine (parapetref1_Lower.calls k t177 t178 _ A3.out).mono ?_); rintro e w8 ⟨rfl, hb⟩; refine ⟨_, rfl, ?_⟩; have n0_ := Aside0.mk (below_step (by repeat (first | (with_reducible first | exact HB.out | apply below_alloc | apply pw_below_drewN | apply below_drew1) | exact HB.out)) hb); clear HB; have HB := n0_; clear n0_; (try clear hb); (try clear hb2); (try clear hk); (try clear hi)))
    go_loopg [5] k (fun kq v5 w' => ∃ (x5_1 : Int), v5 = .int .i64 x5_1 ∧ Aside0 (parapetref9_Host.l0 kq t178 x5_1 = some (r1, r2)) ∧ Aside0 (kq ≤ k) ∧ Aside0 (Below w.heap.size w w'))
    case atStart => exact ⟨(0), (by first | rfl | (simp; done) | (simp [*]; done)), H', ⟨Nat.le_refl _⟩, ⟨by repeat (first | (with_reducible first | exact HB.out | apply below_alloc | apply pw_below_drewN | apply below_drew1) | exact HB.out)⟩⟩
    case round =>
      clear H'
      try clear c1
      try clear p2
      try clear c4
      try clear c4b0
      try clear c4b1
      try clear c6
      obtain ⟨x5_1, rfl, HA, HK1, HB⟩ := hrel
      cases gk with
      | zero => exact absurd HA.out (by simp [parapetref9_Host.l0])
      | succ k1 =>
        have H := HA.out
        clear HA
        simp only [parapetref9_Host.l0] at H
        by_cases c9 : x5_1 < (t178.size : Int)
        · rw [if_pos c9] at H
          have c9b0 : decide (x5_1 < (t178.size : Int)) = true := decide_eq_true c9
          clear c9
          by_cases c10 : 0 ≤ x5_1
          · rw [if_pos c10] at H
            have c10b0 : decide (0 ≤ x5_1) = true := decide_eq_true c10
            clear c10
            by_cases c12 : (bt t178 x5_1) ≤ 32
            · rw [if_pos c12] at H
              have c12b0 : decide ((bt t178 x5_1) ≤ 32) = true := decide_eq_true c12
              clear c12
              simp only [Option.some.injEq, Prod.mk.injEq] at H
              obtain ⟨rfl, rfl⟩ := H
              have p11 : 0 ≤ (x5_1 : Int) := of_decide_eq_true (by first | (with_reducible assumption) | assumption)
              have q11 : x5_1 < (t178.size : Int) := of_decide_eq_true (by first | (with_reducible assumption) | assumption)
              have hx11 := bt_at t178 x5_1
              replace p11 := eq_true p11
              replace q11 := eq_true q11
              go_wp2
              go_ret2
              exact ⟨by first | rfl | (simp [errW_none, errW_some] <;> rfl) | (simp [*, errW_none, errW_some] <;> rfl), by repeat (first | (with_reducible first | exact HB.out | apply below_alloc | apply pw_below_drewN | apply below_drew1) | exact HB.out)⟩
            · rw [if_neg c12] at H
              have c12b0 : decide ((bt t178 x5_1) ≤ 32) = false := decide_eq_false c12
              clear c12
              by_cases c14 : (bt t178 x5_1) ≥ 127
              · rw [if_pos c14] at H
                have c14b0 : decide (127 ≤ (bt t178 x5_1)) = true := decide_eq_true c14
                clear c14
                simp only [Option.some.injEq, Prod.mk.injEq] at H
                obtain ⟨rfl, rfl⟩ := H
                have p11 : 0 ≤ (x5_1 : Int) := of_decide_eq_true (by first | (with_reducible assumption) | assumption)
                have q11 : x5_1 < (t178.size : Int) := of_decide_eq_true (by first | (with_reducible assumption) | assumption)
                have hx11 := bt_at t178 x5_1
                replace p11 := eq_true p11
                replace q11 := eq_true q11
                have p13 : 0 ≤ (x5_1 : Int) := of_decide_eq_true (by first | (with_reducible assumption) | assumption)
                have q13 : x5_1 < (t178.size : Int) := of_decide_eq_true (by first | (with_reducible assumption) | assumption)
                have hx13 := bt_at t178 x5_1
                replace p13 := eq_true p13
                replace q13 := eq_true q13
                go_wp2
                go_ret2
                exact ⟨by first | rfl | (simp [errW_none, errW_some] <;> rfl) | (simp [*, errW_none, errW_some] <;> rfl), by repeat (first | (with_reducible first | exact HB.out | apply below_alloc | apply pw_below_drewN | apply below_drew1) | exact HB.out)⟩
              · rw [if_neg c14] at H
                have c14b0 : decide (127 ≤ (bt t178 x5_1)) = false := decide_eq_false c14
                clear c14
                replace H := Option.bind_eq_some_iff.mp H
                obtain ⟨t179, A160, H⟩ := H
                replace H : (if t179 = true then (some ((⟨#[]⟩ : ByteArray), 8)) else (parapetref9_Host.l0 k1 t178 (wrap64 (x5_1 + 1)))) = some (r1, r2) := H
                have A16 := Aside0.mk A160
                clear A160
                by_cases c17 : t179 = true
                · subst c17
                  have H1 : (some ((⟨#[]⟩ : ByteArray), 8)) = some (r1, r2) := by rw [if_pos rfl] at H; exact H
                  clear H
                  have H := H1
                  clear H1
                  simp only [Option.some.injEq, Prod.mk.injEq] at H
                  obtain ⟨rfl, rfl⟩ := H
                  have p11 : 0 ≤ (x5_1 : Int) := of_decide_eq_true (by first | (with_reducible assumption) | assumption)
                  have q11 : x5_1 < (t178.size : Int) := of_decide_eq_true (by first | (with_reducible assumption) | assumption)
                  have hx11 := bt_at t178 x5_1
                  replace p11 := eq_true p11
                  replace q11 := eq_true q11
                  have p13 : 0 ≤ (x5_1 : Int) := of_decide_eq_true (by first | (with_reducible assumption) | assumption)
                  have q13 : x5_1 < (t178.size : Int) := of_decide_eq_true (by first | (with_reducible assumption) | assumption)
                  have hx13 := bt_at t178 x5_1
                  replace p13 := eq_true p13
                  replace q13 := eq_true q13
                  have p15 : 0 ≤ (x5_1 : Int) := of_decide_eq_true (by first | (with_reducible assumption) | assumption)
                  have q15 : x5_1 < (t178.size : Int) := of_decide_eq_true (by first | (with_reducible assumption) | assumption)
                  have hx15 := bt_at t178 x5_1
                  replace p15 := eq_true p15
                  replace q15 := eq_true q15
                  go_wp2_with (first | (go_at_call 98; (with_reducible refine (parapetref1_Has.calls k1 (⟨#[35, 37, 47, 58, 60, 62, 63, 64, 91, 92, 93, 94, 124]⟩ : ByteArray) (bt t178 x5_1) true _ A16.out).mono ?_); rintro e w' ⟨rfl, ⟨nd, rfl⟩⟩))
                  go_ret2
                  exact ⟨by first | rfl | (simp [errW_none, errW_some] <;> rfl) | (simp [*, errW_none, errW_some] <;> rfl), by repeat (first | (with_reducible first | exact HB.out | apply below_alloc | apply pw_below_drewN | apply below_drew1) | exact HB.out)⟩
                · replace c17 := Bool.eq_false_iff.mpr c17
                  subst c17
                  have H1 : (parapetref9_Host.l0 k1 t178 (wrap64 (x5_1 + 1))) = some (r1, r2) := by rw [if_neg (show ¬ (false = true) by decide)] at H; exact H
                  clear H
                  have H := H1
                  clear H1
                  have H' := Aside0.mk H
                  clear H
                  have p11 : 0 ≤ (x5_1 : Int) := of_decide_eq_true (by first | (with_reducible assumption) | assumption)
                  have q11 : x5_1 < (t178.size : Int) := of_decide_eq_true (by first | (with_reducible assumption) | assumption)
                  have hx11 := bt_at t178 x5_1
                  replace p11 := eq_true p11
                  replace q11 := eq_true q11
                  have p13 : 0 ≤ (x5_1 : Int) := of_decide_eq_true (by first | (with_reducible assumption) | assumption)
                  have q13 : x5_1 < (t178.size : Int) := of_decide_eq_true (by first | (with_reducible assumption) | assumption)
                  have hx13 := bt_at t178 x5_1
                  replace p13 := eq_true p13
                  replace q13 := eq_true q13
                  have p15 : 0 ≤ (x5_1 : Int) := of_decide_eq_true (by first | (with_reducible assumption) | assumption)
                  have q15 : x5_1 < (t178.size : Int) := of_decide_eq_true (by first | (with_reducible assumption) | assumption)
                  have hx15 := bt_at t178 x5_1
                  replace p15 := eq_true p15
                  replace q15 := eq_true q15
                  go_wp2_with (first | (go_at_call 98; (with_reducible refine (parapetref1_Has.calls k1 (⟨#[35, 37, 47, 58, 60, 62, 63, 64, 91, 92, 93, 94, 124]⟩ : ByteArray) (bt t178 x5_1) false _ A16.out).mono ?_); rintro e w' ⟨rfl, ⟨nd, rfl⟩⟩))
                  go_roundg k1
                  case measure => have := HK1.out; omega
                  case rel => exact ⟨(wrap64 (x5_1 + 1)), (by first | rfl | (simp; done) | (simp [*]; done)), H', ⟨by have := HK1.out; omega⟩, ⟨by repeat (first | (with_reducible first | exact HB.out | apply below_alloc | apply pw_below_drewN | apply below_drew1) | exact HB.out)⟩⟩
          · rw [if_neg c10] at H
            exact absurd H (by simp)
        · rw [if_neg c9] at H
          have c9b0 : decide (x5_1 < (t178.size : Int)) = false := decide_eq_false c9
          clear c9
          replace H := Option.bind_eq_some_iff.mp H
          obtain ⟨t180, A180, H⟩ := H
          replace H : (if t180 = true then ((parapetref9_Number.f k1 t178).bind fun bt181 => (if bt181.2 = true then ((parapetref9_Address.f bt181.1).bind fun t183 => (some (t183, 0))) else (some ((⟨#[]⟩ : ByteArray), 8)))) else (some (t178, 0))) = some (r1, r2) := H
          have A18 := Aside0.mk A180
          clear A180
          by_cases c19 : t180 = true
          · subst c19
            have H1 : ((parapetref9_Number.f k1 t178).bind fun bt181 => (if bt181.2 = true then ((parapetref9_Address.f bt181.1).bind fun t183 => (some (t183, 0))) else (some ((⟨#[]⟩ : ByteArray), 8)))) = some (r1, r2) := by rw [if_pos rfl] at H; exact H
            clear H
            have H := H1
            clear H1
            replace H := Option.bind_eq_some_iff.mp H
            obtain ⟨⟨t181, t182⟩, A200, H⟩ := H
            replace H : (if t182 = true then ((parapetref9_Address.f t181).bind fun t183 => (some (t183, 0))) else (some ((⟨#[]⟩ : ByteArray), 8))) = some (r1, r2) := H
            have A20 := Aside0.mk A200
            clear A200
            by_cases c21 : t182 = true
            · subst c21
              have H1 : ((parapetref9_Address.f t181).bind fun t183 => (some (t183, 0))) = some (r1, r2) := by rw [if_pos rfl] at H; exact H
              clear H
              have H := H1
              clear H1
              replace H := Option.bind_eq_some_iff.mp H
              obtain ⟨t183, A220, H⟩ := H
              replace H : (some (t183, 0)) = some (r1, r2) := H
              have A22 := Aside0.mk A220
              clear A220
              simp only [Option.some.injEq, Prod.mk.injEq] at H
              obtain ⟨rfl, rfl⟩ := H
              go_wp2_with (first | ((with_reducible refine gate_callee (f := 138) rfl ?_); refine goesL_ (some 36) rfl rfl Tryz.func138 (by kernel_rfl) rfl #[.string t178] rfl (by (try simp only [List.map_toArray, List.map_cons, List.map_nil]); first | done | rfl | (simp only [List.length_drop, List.length_take]; rfl)) ?_; (with_reducible refine (parapetref9_numeric.calls k1 t178 true _ A18.out).mono ?_); rintro e w23 ⟨rfl, hb⟩; refine ⟨_, rfl, ?_⟩; have n0_ := Aside0.mk (below_step (by repeat (first | (with_reducible first | exact HB.out | apply below_alloc | apply pw_below_drewN | apply below_drew1) | exact HB.out)) hb); clear HB; have HB := n0_; clear n0_; (try clear hb); (try clear hb2); (try clear hk); (try clear hi)) | ((with_reducible refine gate_callee (f := 109) rfl ?_); refine goesL_ (some 39) rfl rfl Tryz.func109 (by kernel_rfl) rfl #[.string t178] rfl (by (try simp only [List.map_toArray, List.map_cons, List.map_nil]); first | done | rfl | (simp only [List.length_drop, List.length_take]; rfl)) ?_; (with_reducible refine (parapetref9_Number.calls k1 t178 t181 true _ A20.out).mono ?_); rintro e w24 ⟨rfl, hb⟩; refine ⟨_, rfl, ?_⟩; have n0_ := Aside0.mk (below_step (by repeat (first | (with_reducible first | exact HB.out | apply below_alloc | apply pw_below_drewN | apply below_drew1) | exact HB.out)) hb); clear HB; have HB := n0_; clear n0_; (try clear hb); (try clear hb2); (try clear hk); (try clear hi)) | ((with_reducible refine gate_callee (f := 110) rfl ?_); refine goesL_ (some 45) rfl rfl Tryz.func110 (by kernel_rfl) rfl #[.int .u32 t181] rfl (by (try simp only [List.map_toArray, List.map_cons, List.map_nil]); first | done | rfl | (simp only [List.length_drop, List.length_take]; rfl)) ?_; (with_reducible refine (parapetref9_Address.calls t181 t183 _ A22.out).mono ?_); rintro e w25 ⟨rfl, hb⟩; refine ⟨_, rfl, ?_⟩; have n0_ := Aside0.mk (below_step (by repeat (first | (with_reducible first | exact HB.out | apply below_alloc | apply pw_below_drewN | apply below_drew1) | exact HB.out)) hb); clear HB; have HB := n0_; clear n0_; (try clear hb); (try clear hb2); (try clear hk); (try clear hi)))
              go_ret2
              exact ⟨by first | rfl | (simp [errW_none, errW_some] <;> rfl) | (simp [*, errW_none, errW_some] <;> rfl), by repeat (first | (with_reducible first | exact HB.out | apply below_alloc | apply pw_below_drewN | apply below_drew1) | exact HB.out)⟩
            · replace c21 := Bool.eq_false_iff.mpr c21
              subst c21
              have H1 : (some ((⟨#[]⟩ : ByteArray), 8)) = some (r1, r2) := by rw [if_neg (show ¬ (false = true) by decide)] at H; exact H
              clear H
              have H := H1
              clear H1
              simp only [Option.some.injEq, Prod.mk.injEq] at H
              obtain ⟨rfl, rfl⟩ := H
              go_wp2_with (first | ((with_reducible refine gate_callee (f := 138) rfl ?_); refine goesL_ (some 36) rfl rfl Tryz.func138 (by kernel_rfl) rfl #[.string t178] rfl (by (try simp only [List.map_toArray, List.map_cons, List.map_nil]); first | done | rfl | (simp only [List.length_drop, List.length_take]; rfl)) ?_; (with_reducible refine (parapetref9_numeric.calls k1 t178 true _ A18.out).mono ?_); rintro e w26 ⟨rfl, hb⟩; refine ⟨_, rfl, ?_⟩; have n0_ := Aside0.mk (below_step (by repeat (first | (with_reducible first | exact HB.out | apply below_alloc | apply pw_below_drewN | apply below_drew1) | exact HB.out)) hb); clear HB; have HB := n0_; clear n0_; (try clear hb); (try clear hb2); (try clear hk); (try clear hi)) | ((with_reducible refine gate_callee (f := 109) rfl ?_); refine goesL_ (some 39) rfl rfl Tryz.func109 (by kernel_rfl) rfl #[.string t178] rfl (by (try simp only [List.map_toArray, List.map_cons, List.map_nil]); first | done | rfl | (simp only [List.length_drop, List.length_take]; rfl)) ?_; (with_reducible refine (parapetref9_Number.calls k1 t178 t181 false _ A20.out).mono ?_); rintro e w27 ⟨rfl, hb⟩; refine ⟨_, rfl, ?_⟩; have n0_ := Aside0.mk (below_step (by repeat (first | (with_reducible first | exact HB.out | apply below_alloc | apply pw_below_drewN | apply below_drew1) | exact HB.out)) hb); clear HB; have HB := n0_; clear n0_; (try clear hb); (try clear hb2); (try clear hk); (try clear hi)))
              go_ret2
              exact ⟨by first | rfl | (simp [errW_none, errW_some] <;> rfl) | (simp [*, errW_none, errW_some] <;> rfl), by repeat (first | (with_reducible first | exact HB.out | apply below_alloc | apply pw_below_drewN | apply below_drew1) | exact HB.out)⟩
          · replace c19 := Bool.eq_false_iff.mpr c19
            subst c19
            have H1 : (some (t178, 0)) = some (r1, r2) := by rw [if_neg (show ¬ (false = true) by decide)] at H; exact H
            clear H
            have H := H1
            clear H1
            simp only [Option.some.injEq, Prod.mk.injEq] at H
            obtain ⟨rfl, rfl⟩ := H
            go_wp2_with (first | ((with_reducible refine gate_callee (f := 138) rfl ?_); refine goesL_ (some 36) rfl rfl Tryz.func138 (by kernel_rfl) rfl #[.string t178] rfl (by (try simp only [List.map_toArray, List.map_cons, List.map_nil]); first | done | rfl | (simp only [List.length_drop, List.length_take]; rfl)) ?_; (with_reducible refine (parapetref9_numeric.calls k1 t178 false _ A18.out).mono ?_); rintro e w28 ⟨rfl, hb⟩; refine ⟨_, rfl, ?_⟩; have n0_ := Aside0.mk (below_step (by repeat (first | (with_reducible first | exact HB.out | apply below_alloc | apply pw_below_drewN | apply below_drew1) | exact HB.out)) hb); clear HB; have HB := n0_; clear n0_; (try clear hb); (try clear hb2); (try clear hk); (try clear hi)))
            go_ret2
            exact ⟨by first | rfl | (simp [errW_none, errW_some] <;> rfl) | (simp [*, errW_none, errW_some] <;> rfl), by repeat (first | (with_reducible first | exact HB.out | apply below_alloc | apply pw_below_drewN | apply below_drew1) | exact HB.out)⟩
end Go.Proofs.YtcmcopieagpppaaGreatDoor.P
namespace Go.Proofs.YtcmcopieagpppaaGreatDoor.P
open Go.RowKit Go.Proofs.YtcmcopieagpppaaGreatDoorW.PrintWords Go.Proofs.YtcmcopieagpppaaGreatDoorW.PrintLast Go.Proofs.YtcmcopieagpppaaGreatDoorW.PrintMore
attribute [local go_sem] max2_int min2_int max_two min_two max_three min_three max_four min_four
set_option linter.unusedVariables false
set_option linter.unusedSimpArgs false
def parapetref9_dots.l0 : Nat → ByteArray → Int → Option (Int)
  | 0, _, _ => none
  | k + 1, x0, x3 => if x0.toList = ([] : List UInt8) then (if x3 > 2 then (some 0) else (some x3)) else (if 0 < (x0.size : Int) then (if (bt x0 0) = 46 then (if 1 ≤ (x0.size : Int) then (parapetref9_dots.l0 k (x0.extract 1 x0.size) (wrap64 (x3 + 1))) else (none)) else (if (x0.size : Int) ≥ 3 then (if 0 ≤ 3 then (if 3 ≤ (x0.size : Int) then (if (x0.extract 0 3).toList = ([37, 50, 101] : List UInt8) then (parapetref9_dots.l0 k (x0.extract 3 x0.size) (wrap64 (x3 + 1))) else (some 0)) else (none)) else (none)) else (some 0))) else (none))
def parapetref9_dots.f (k : Nat) (a0 : ByteArray) : Option (Int) := (parapetref1_Lower.f k a0).bind fun t110 => (parapetref9_dots.l0 k t110 0)
set_option maxHeartbeats 8000000 in
set_option maxRecDepth 100000 in
theorem parapetref9_dots.calls (k : Nat) (a0 : ByteArray) (r : Int) (w : World) (h : parapetref9_dots.f k a0 = some r) :
    Calls Tryz.prog 102 #[.string a0] w fun e w' => e = .returned (.int .i64 r) ∧ Below w.heap.size w w' := by
  have HB := Aside0.mk (Below.refl w.heap.size w)
  have H : ((parapetref1_Lower.f k a0).bind fun t110 => (parapetref9_dots.l0 k t110 0)) = some r := h
  clear h
  replace H := Option.bind_eq_some_iff.mp H
  obtain ⟨t110, A20, H⟩ := H
  replace H : (parapetref9_dots.l0 k t110 0) = some r := H
  have A2 := Aside0.mk A20
  clear A20
  have H' := Aside0.mk H
  clear H
  go_enter Tryz.func102, Tryz.ntmps102
  go_wp2_with (first | ((with_reducible refine gate_callee (f := 63) rfl ?_); refine goesL_ (some 5) rfl rfl Tryz.func63 (by kernel_rfl) rfl #[.string a0] rfl (by (try simp only [List.map_toArray, List.map_cons, List.map_nil]); first | done | rfl | (simp only [List.length_drop, List.length_take]; rfl)) ?_; (with_reducible refine (parapetref1_Lower.calls k a0 t110 _ A2.out).mono ?_); rintro e w3 ⟨rfl, hb⟩; refine ⟨_, rfl, ?_⟩; have n0_ := Aside0.mk (below_step (by repeat (first | (with_reducible first | exact HB.out | apply below_alloc | apply pw_below_drewN | apply below_drew1) | exact HB.out)) hb); clear HB; have HB := n0_; clear n0_; (try clear hb); (try clear hb2); (try clear hk); (try clear hi)))
  go_loopg [0, 3] k (fun kq v0 v3 w' => ∃ (x0_1 : ByteArray) (x3_1 : Int), v0 = .string x0_1 ∧ v3 = .int .i64 x3_1 ∧ Aside0 (parapetref9_dots.l0 kq x0_1 x3_1 = some r) ∧ Aside0 (kq ≤ k) ∧ Aside0 (Below w.heap.size w w'))
  case atStart => exact ⟨(t110), (0), (by first | rfl | (simp; done) | (simp [*]; done)), (by first | rfl | (simp; done) | (simp [*]; done)), H', ⟨Nat.le_refl _⟩, ⟨by repeat (first | (with_reducible first | exact HB.out | apply below_alloc | apply pw_below_drewN | apply below_drew1) | exact HB.out)⟩⟩
  case round =>
    clear H'
    try clear c1
    try clear p2
    obtain ⟨x0_1, x3_1, rfl, rfl, HA, HK1, HB⟩ := hrel
    cases gk with
    | zero => exact absurd HA.out (by simp [parapetref9_dots.l0])
    | succ k1 =>
      have H := HA.out
      clear HA
      simp only [parapetref9_dots.l0] at H
      by_cases c4 : x0_1.toList = ([] : List UInt8)
      · rw [if_pos c4] at H
        have c4b0 : (x0_1.toList == ([] : List UInt8)) = true := beq_iff_eq.mpr c4
        have c4b1 : (x0_1.toList != ([] : List UInt8)) = false := bne_eq_false_iff_eq.mpr c4
        clear c4
        by_cases c5 : x3_1 > 2
        · rw [if_pos c5] at H
          have c5b0 : decide (2 < x3_1) = true := decide_eq_true c5
          clear c5
          obtain rfl := Option.some.inj H
          go_wp2
          go_ret
          exact ⟨by first | rfl | (simp [errW_none, errW_some] <;> rfl) | (simp [*, errW_none, errW_some] <;> rfl), by repeat (first | (with_reducible first | exact HB.out | apply below_alloc | apply pw_below_drewN | apply below_drew1) | exact HB.out)⟩
        · rw [if_neg c5] at H
          have c5b0 : decide (2 < x3_1) = false := decide_eq_false c5
          clear c5
          obtain rfl := Option.some.inj H
          go_wp2
          go_ret
          exact ⟨by first | rfl | (simp [errW_none, errW_some] <;> rfl) | (simp [*, errW_none, errW_some] <;> rfl), by repeat (first | (with_reducible first | exact HB.out | apply below_alloc | apply pw_below_drewN | apply below_drew1) | exact HB.out)⟩
      · rw [if_neg c4] at H
        have c4b0 : (x0_1.toList == ([] : List UInt8)) = false := beq_eq_false_iff_ne.mpr c4
        have c4b1 : (x0_1.toList != ([] : List UInt8)) = true := bne_iff_ne.mpr c4
        by_cases c6 : 0 < (x0_1.size : Int)
        · rw [if_pos c6] at H
          have c6b0 : decide (0 < (x0_1.size : Int)) = true := decide_eq_true c6
          have c6b1 : decide (0 < x0_1.size) = true := decide_eq_true (by omega)
          clear c6
          by_cases c8 : (bt x0_1 0) = 46
          · rw [if_pos c8] at H
            have c8b0 : ((bt x0_1 0) == 46) = true := beq_iff_eq.mpr c8
            have c8b1 : ((bt x0_1 0) != 46) = false := bne_eq_false_iff_eq.mpr c8
            clear c8
            by_cases c9 : 1 ≤ (x0_1.size : Int)
            · rw [if_pos c9] at H
              have c9b0 := eq_true c9
              have c9b1 : decide (1 ≤ (x0_1.size : Int)) = true := decide_eq_true c9
              clear c9
              have H' := Aside0.mk H
              clear H
              have p7 : 0 ≤ (0 : Int) := (by omega)
              have q7 : 0 < x0_1.size := (by have : (0 : Int) < (x0_1.size : Int) := of_decide_eq_true (by first | (with_reducible assumption) | assumption); omega)
              have hx7 : ∀ h : 0 < x0_1.size, ((x0_1[0]'h).toNat : Int) = bt x0_1 0 := bt_at x0_1 0
              clear p7
              have qi7 : (0 < (x0_1.size : Int)) = True := eq_true (of_decide_eq_true (by first | (with_reducible assumption) | assumption))
              replace q7 := eq_true q7
              go_wp2
              go_roundg k1
              case measure => have := HK1.out; omega
              case rel => exact ⟨(x0_1.extract 1 x0_1.size), (wrap64 (x3_1 + 1)), (by first | rfl | (simp; done) | (simp [*]; done)), (by first | rfl | (simp; done) | (simp [*]; done)), H', ⟨by have := HK1.out; omega⟩, ⟨by repeat (first | (with_reducible first | exact HB.out | apply below_alloc | apply pw_below_drewN | apply below_drew1) | exact HB.out)⟩⟩
            · rw [if_neg c9] at H
              exact absurd H (by simp)
          · rw [if_neg c8] at H
            have c8b0 : ((bt x0_1 0) == 46) = false := beq_eq_false_iff_ne.mpr c8
            have c8b1 : ((bt x0_1 0) != 46) = true := bne_iff_ne.mpr c8
            by_cases c10 : (x0_1.size : Int) ≥ 3
            · rw [if_pos c10] at H
              have c10b0 : decide (3 ≤ (x0_1.size : Int)) = true := decide_eq_true c10
              have c10b1 : decide (3 ≤ x0_1.size) = true := decide_eq_true (by omega)
              clear c10
              by_cases c11 : 0 ≤ 3
              · rw [if_pos c11] at H
                have c11b0 := eq_true c11
                have c11b1 : decide (0 ≤ 3) = true := decide_eq_true c11
                clear c11
                by_cases c12 : 3 ≤ (x0_1.size : Int)
                · rw [if_pos c12] at H
                  have c12b0 := eq_true c12
                  have c12b1 : decide (3 ≤ (x0_1.size : Int)) = true := decide_eq_true c12
                  clear c12
                  by_cases c13 : (x0_1.extract 0 3).toList = ([37, 50, 101] : List UInt8)
                  · rw [if_pos c13] at H
                    have c13b0 : ((x0_1.extract 0 3).toList == ([37, 50, 101] : List UInt8)) = true := beq_iff_eq.mpr c13
                    have c13b1 : ((x0_1.extract 0 3).toList != ([37, 50, 101] : List UInt8)) = false := bne_eq_false_iff_eq.mpr c13
                    clear c13
                    have c14b0 := eq_true (of_decide_eq_true (by first | (with_reducible assumption) | assumption) : 3 ≤ (x0_1.size : Int))
                    have H' := Aside0.mk H
                    clear H
                    have p7 : 0 ≤ (0 : Int) := (by omega)
                    have q7 : 0 < x0_1.size := (by have : (0 : Int) < (x0_1.size : Int) := of_decide_eq_true (by first | (with_reducible assumption) | assumption); omega)
                    have hx7 : ∀ h : 0 < x0_1.size, ((x0_1[0]'h).toNat : Int) = bt x0_1 0 := bt_at x0_1 0
                    clear p7
                    have qi7 : (0 < (x0_1.size : Int)) = True := eq_true (of_decide_eq_true (by first | (with_reducible assumption) | assumption))
                    replace q7 := eq_true q7
                    go_wp2
                    go_roundg k1
                    case measure => have := HK1.out; omega
                    case rel => exact ⟨(x0_1.extract 3 x0_1.size), (wrap64 (x3_1 + 1)), (by first | rfl | (simp; done) | (simp [*]; done)), (by first | rfl | (simp; done) | (simp [*]; done)), H', ⟨by have := HK1.out; omega⟩, ⟨by repeat (first | (with_reducible first | exact HB.out | apply below_alloc | apply pw_below_drewN | apply below_drew1) | exact HB.out)⟩⟩
                  · rw [if_neg c13] at H
                    have c13b0 : ((x0_1.extract 0 3).toList == ([37, 50, 101] : List UInt8)) = false := beq_eq_false_iff_ne.mpr c13
                    have c13b1 : ((x0_1.extract 0 3).toList != ([37, 50, 101] : List UInt8)) = true := bne_iff_ne.mpr c13
                    obtain rfl := Option.some.inj H
                    have p7 : 0 ≤ (0 : Int) := (by omega)
                    have q7 : 0 < x0_1.size := (by have : (0 : Int) < (x0_1.size : Int) := of_decide_eq_true (by first | (with_reducible assumption) | assumption); omega)
                    have hx7 : ∀ h : 0 < x0_1.size, ((x0_1[0]'h).toNat : Int) = bt x0_1 0 := bt_at x0_1 0
                    clear p7
                    have qi7 : (0 < (x0_1.size : Int)) = True := eq_true (of_decide_eq_true (by first | (with_reducible assumption) | assumption))
                    replace q7 := eq_true q7
                    go_wp2
                    go_ret
                    exact ⟨by first | rfl | (simp [errW_none, errW_some] <;> rfl) | (simp [*, errW_none, errW_some] <;> rfl), by repeat (first | (with_reducible first | exact HB.out | apply below_alloc | apply pw_below_drewN | apply below_drew1) | exact HB.out)⟩
                · rw [if_neg c12] at H
                  exact absurd H (by simp)
              · rw [if_neg c11] at H
                exact absurd H (by simp)
            · rw [if_neg c10] at H
              have c10b0 : decide (3 ≤ (x0_1.size : Int)) = false := decide_eq_false c10
              have c10b1 : decide (3 ≤ x0_1.size) = false := decide_eq_false (by omega)
              clear c10
              obtain rfl := Option.some.inj H
              have p7 : 0 ≤ (0 : Int) := (by omega)
              have q7 : 0 < x0_1.size := (by have : (0 : Int) < (x0_1.size : Int) := of_decide_eq_true (by first | (with_reducible assumption) | assumption); omega)
              have hx7 : ∀ h : 0 < x0_1.size, ((x0_1[0]'h).toNat : Int) = bt x0_1 0 := bt_at x0_1 0
              clear p7
              have qi7 : (0 < (x0_1.size : Int)) = True := eq_true (of_decide_eq_true (by first | (with_reducible assumption) | assumption))
              replace q7 := eq_true q7
              go_wp2
              go_ret
              exact ⟨by first | rfl | (simp [errW_none, errW_some] <;> rfl) | (simp [*, errW_none, errW_some] <;> rfl), by repeat (first | (with_reducible first | exact HB.out | apply below_alloc | apply pw_below_drewN | apply below_drew1) | exact HB.out)⟩
        · rw [if_neg c6] at H
          exact absurd H (by simp)
end Go.Proofs.YtcmcopieagpppaaGreatDoor.P
