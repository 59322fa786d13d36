/- A part of the proof of the statement E: what is proved here of the program serves its last text; its conditions stand in the theorems. -/
import Derived.Test.YtcmcopieagpppaaGreatDoorKE1
import Derived.Test.YtcmcopieagpppaaGreatDoorKE2
import Derived.Test.YtcmcopieagpppaaGreatDoorKE4
import Derived.Deep.DeepHandedRow
import Derived.Deep.DeepWitnessRowRef
import Derived.Deep.RegionHeld3
import Derived.Laws.StructEq
import Derived.Lib.LaidIn
import Derived.Lib.LaidU8T
import Derived.Lib.SmallJoins
import Derived.OpenShut
import Derived.ProofKit
import Derived.ShutString
import Derived.SizedLaws
import Derived.Test.YtcmcopieagpppaaGreatDoorCards
import Derived.Test.YtcmcopieagpppaaGreatDoorTie
import Derived.WalkKit
namespace Go.Proofs.YtcmcopieagpppaaGreatDoor.P
set_option linter.unusedVariables false
set_option linter.unusedSimpArgs false
theorem brk_fst_len (q : UInt8 → Bool) (l : List UInt8) : (Web.brk q l).1.length ≤ l.length := by have := brk_len q l; omega
theorem brk_snd_len (q : UInt8 → Bool) (l : List UInt8) : (Web.brk q l).2.length ≤ l.length := by have := brk_len q l; omega
theorem portText_nat (n : Nat) : Web.portText (n : Int) = Web.decimal n := by
  unfold Web.portText
  rw [if_neg (by omega)]
  rfl
end Go.Proofs.YtcmcopieagpppaaGreatDoor.P
namespace Go.Proofs.YtcmcopieagpppaaGreatDoor.P
open Go.RowKit Go.Proofs.YtcmcopieagpppaaGreatDoorW.PrintWords Go.Proofs.YtcmcopieagpppaaGreatDoorW.PrintLast Go.Proofs.YtcmcopieagpppaaGreatDoorW.PrintMore
set_option linter.unusedVariables false
set_option linter.unusedSimpArgs false
theorem TabsTo {w w1 : World} {g : Nat} (h : Tabs w) (hb : Below g w w1) (hg : 3 ≤ g) : Tabs w1 := by
  obtain ⟨h1, ⟨m, h2⟩, h3⟩ := h
  refine ⟨?_, ⟨m, (hb.cell (p := ⟨2, 0, none⟩) (by show 2 < g; omega)).trans h2⟩, Nat.le_trans h3 hb.size⟩
  exact ⟨fun c hc => (hb.cell (p := ⟨0, c, none⟩) (by show 0 < g; omega)).trans (h1.1 c hc), fun i hi => ⟨(hb.cell (p := ⟨1, 2 * i, none⟩) (by show 1 < g; omega)).trans (h1.2 i hi).1, (hb.cell (p := ⟨1, 2 * i + 1, none⟩) (by show 1 < g; omega)).trans (h1.2 i hi).2⟩⟩
theorem q_yes {R r : List UInt8} {c : UInt8} (h : R = c :: r) (hc : (c == 63) = true) : Web.brk (· == 35) R = (63 :: (Web.brk (· == 35) r).1, (Web.brk (· == 35) r).2) := by
  have e : c = 63 := by simpa using hc
  subst e
  rw [h, brk_cons, if_neg (by decide)]
theorem q_no {R1 R : List UInt8} (hR : R = (Web.brk qf R1).2) (h : ∀ c r, R = c :: r → (c == 63) = false) : Web.brk (· == 35) R = ([], R) := by
  cases R with
  | nil => rfl
  | cons c t =>
    have h1 := h c t rfl
    have h2 := brk_snd_head qf R1 c t hR.symm
    unfold qf at h2
    rw [h1, Bool.false_or] at h2
    rw [brk_cons, if_pos h2]
theorem f_no {R F : List UInt8} (hF : F = (Web.brk (· == 35) R).2) (h : ∀ c r, F = c :: r → (c == 35) = false) : F = [] := by
  cases F with
  | nil => rfl
  | cons c t =>
    have h1 := h c t rfl
    have h2 := brk_snd_head (· == 35) R c t hF.symm
    rw [h1] at h2
    cases h2
theorem slash_stop {R S : List UInt8} (hR : R.dropWhile Web.slash = S) (h : ∀ c r, R = c :: r → Web.slash c = false) : S = R := by
  cases R with
  | nil => exact hR.symm
  | cons c t => rw [← hR, List.dropWhile_cons_of_neg (by rw [h c t rfl]; decide)]
def vStr : Option Value → Nat
  | some (.string x) => x.size
  | _ => 0
set_option maxRecDepth 100000 in
set_option maxHeartbeats 4000000 in
theorem url_parse_walk (s : ByteArray) (w : World) (hT : Tabs w) :
    Calls Tryz.prog 22 #[.string s] w fun e w' => e = .returned (urlR (Web.parse (bs s))) ∧ Below w.heap.size w w' := by
  have HT := Lib.hid hT
  clear hT
  by_cases c1 : 65536 < s.size
  · have c1' : decide (65536 < (s.size : Int)) = true := decide_eq_true (by omega)
    go_enter Tryz.func22, Tryz.ntmps22
    go_wp2_with (first | ((with_reducible refine gate_dst (N := 2) rfl ?_); refine box_event ?hg (N := 2) ?hd (cs := #[.string ⟨#[]⟩, .string ⟨#[]⟩, .string ⟨#[]⟩, .string ⟨#[]⟩, .int .i64 0, .string ⟨#[]⟩, .bool false, .string ⟨#[]⟩, .bool false, .string ⟨#[]⟩]) (t := 24) ?hr ?_; (case hd => rfl); (case hg => rfl); (case hr => first | (go_simp; done) | (go_simp; rfl)); intro g0 hg0 w0 hbox hb0; have Z0 := Lib.hid (FB.new w w0 g0 hbox); have B0 := Lib.hid hb0; have G0 := Lib.hid (show w.heap.size ≤ g0 by omega); clear hbox hb0 hg0; obtain ⟨zc0, zc1, zc2, zc3, zc4, zc5, zc6, zc7, zc8, zc9⟩ := Z0.out.cells; obtain ⟨zf0, zf1, zf2, zf3, zf4, zf5, zf6, zf7, zf8, zf9⟩ := Z0.out.frozens))
    refine bodyPost_ret (results_ct rfl _ _ g0 24 _ (0, 0) _ rfl (Z0.out.put uZ) Tryz.underlying24 rfl (by kernel_rfl)) rfl ⟨?_, put10 B0.out G0.out⟩
    unfold Web.parse
    rw [if_pos (by rw [bs_len]; exact c1)]
    rfl
  · have c1' : decide (65536 < (s.size : Int)) = false := decide_eq_false (by omega)
    have p1 : Web.parse (bs s) = Web.url (bs s) := by
      unfold Web.parse
      rw [if_neg (by rw [bs_len]; exact c1)]
    rw [p1]
    go_enter Tryz.func22, Tryz.ntmps22
    go_wp2_with (first | ((with_reducible refine gate_dst (N := 2) rfl ?_); refine box_event ?hg (N := 2) ?hd (cs := #[.string ⟨#[]⟩, .string ⟨#[]⟩, .string ⟨#[]⟩, .string ⟨#[]⟩, .int .i64 0, .string ⟨#[]⟩, .bool false, .string ⟨#[]⟩, .bool false, .string ⟨#[]⟩]) (t := 24) ?hr ?_; (case hd => rfl); (case hg => rfl); (case hr => first | (go_simp; done) | (go_simp; rfl)); intro g0 hg0 w0 hbox hb0; have Z0 := Lib.hid (FB.new w w0 g0 hbox); have B0 := Lib.hid hb0; have G0 := Lib.hid (show w.heap.size ≤ g0 by omega); clear hbox hb0 hg0; obtain ⟨zc0, zc1, zc2, zc3, zc4, zc5, zc6, zc7, zc8, zc9⟩ := Z0.out.cells; obtain ⟨zf0, zf1, zf2, zf3, zf4, zf5, zf6, zf7, zf8, zf9⟩ := Z0.out.frozens))
    clear zc0 zc1 zc2 zc3 zc4 zc5 zc6 zc7 zc8 zc9 zf0 zf1 zf2 zf3 zf4 zf5 zf6 zf7 zf8 zf9 p1
    refine (pct_utf8_c s _ (by omega) (HT.out.below B0.out).1).mono ?_
    rintro e w1 ⟨rfl, b1⟩
    have Z1 := Lib.hid (Z0.out.below b1)
    have B1 := Lib.hid (below_step B0.out b1)
    have T1 := Lib.hid (HT.out.below B1.out)
    clear Z0 B0 b1 HT
    by_cases c2 : Lib.validD (bs s) = true
    · rw [c2]
      go_wp2_with fail
      refine (trimfunc_c s _ (by omega) T1.out.1).mono ?_
      rintro e w2 ⟨s1, rfl, H1, b2⟩
      have Z2 := Lib.hid (Z1.out.below b2)
      have B2 := Lib.hid (below_step B1.out b2)
      have T2 := Lib.hid (T1.out.below b2)
      have hs1 : s1.size ≤ s.size := by rw [← bs_len, H1.out, ← bs_len s]; exact trim_len _
      clear Z1 B1 T1 b2
      go_wp2_with fail
      have hC := six_cells_new w2 _ rfl
      have b3 := (Below.refl w2.heap.size w2).alloc (Nat.le_refl _) (.cells #[.string ⟨#[9]⟩, .string ⟨#[]⟩, .string ⟨#[10]⟩, .string ⟨#[]⟩, .string ⟨#[13]⟩, .string ⟨#[]⟩] 9 (0, 0))
      have hlt3 : w2.heap.size < (w2.alloc (.cells #[.string ⟨#[9]⟩, .string ⟨#[]⟩, .string ⟨#[10]⟩, .string ⟨#[]⟩, .string ⟨#[13]⟩, .string ⟨#[]⟩] 9 (0, 0))).heap.size := by simp
      generalize w2.alloc (.cells #[.string ⟨#[9]⟩, .string ⟨#[]⟩, .string ⟨#[10]⟩, .string ⟨#[]⟩, .string ⟨#[13]⟩, .string ⟨#[]⟩] 9 (0, 0)) = w3 at hC b3 hlt3 ⊢
      have Z3 := Lib.hid (Z2.out.below b3)
      have B3 := Lib.hid (below_step B2.out b3)
      have T3 := Lib.hid (T2.out.below b3)
      clear Z2 B2 T2 b3
      refine (newReplacer_walk w2.heap.size w3 hlt3 hC).mono ?_
      rintro e w4 ⟨g4, rfl, hg4, HN, b4⟩
      have Z4 := Lib.hid (Z3.out.below b4)
      have B4 := Lib.hid (below_step B3.out b4)
      have T4 := Lib.hid (T3.out.below b4)
      have hwg : w.heap.size ≤ g4 := Nat.le_trans B3.out.size hg4
      have hz4 : g0 < g4 := Nat.lt_of_lt_of_le Z3.out.lt hg4
      have hT34 : 3 ≤ g4 := Nat.le_trans T3.out.2.2 hg4
      clear Z3 B3 T3 b4 hlt3 hC
      go_wp2_with fail
      refine (replace_walk g4 s1 _ w3.heap.size HN.out (by omega)).mono ?_
      rintro e w5 ⟨r2, rfl, H5, b5⟩
      have Z5 := Lib.hid (show FB w5 g0 uZ from (b5.block g0 hz4).trans Z4.out)
      have B5 := Lib.hid (below_weaken B4.out hwg b5)
      have e5 : bs r2 = Web.clean (bs s) := by rw [H5.out, H1.out]; rfl
      have E5 := Lib.hid e5
      have hs2 : r2.size ≤ s.size := by rw [← bs_len, e5, ← bs_len s]; exact clean_len _
      have T5 := Lib.hid (TabsTo T4.out b5 hT34)
      clear Z4 B4 T4 b5 H5 H1 HN e5 hg4 hwg hz4 hT34
      go_wp2_with fail
      have hbx := heap_alloc_new w5 (.cells #[.string r2, .string ⟨#[]⟩, .string ⟨#[]⟩, .string ⟨#[]⟩, .string ⟨#[]⟩, .int .i64 0, .string ⟨#[]⟩, .bool false, .string ⟨#[]⟩, .bool false, .string ⟨#[]⟩] 76 (0, 0))
      have R6 : RB (w5.alloc (.cells #[.string r2, .string ⟨#[]⟩, .string ⟨#[]⟩, .string ⟨#[]⟩, .string ⟨#[]⟩, .int .i64 0, .string ⟨#[]⟩, .bool false, .string ⟨#[]⟩, .bool false, .string ⟨#[]⟩] 76 (0, 0))) w5.heap.size r2 uZ := hbx
      have b6 := below_alloc (Below.refl w5.heap.size w5) (.cells #[.string r2, .string ⟨#[]⟩, .string ⟨#[]⟩, .string ⟨#[]⟩, .string ⟨#[]⟩, .int .i64 0, .string ⟨#[]⟩, .bool false, .string ⟨#[]⟩, .bool false, .string ⟨#[]⟩] 76 (0, 0))
      have hg05 := Z5.out.lt
      have hw5 := B5.out.size
      have h35 := T5.out.2.2
      clear hbx
      generalize w5.alloc (.cells #[.string r2, .string ⟨#[]⟩, .string ⟨#[]⟩, .string ⟨#[]⟩, .string ⟨#[]⟩, .int .i64 0, .string ⟨#[]⟩, .bool false, .string ⟨#[]⟩, .bool false, .string ⟨#[]⟩] 76 (0, 0)) = w6 at R6 b6 ⊢
      have RB6 := Lib.hid R6
      have Z6 := Lib.hid (Z5.out.below b6)
      have B6 := Lib.hid (below_step B5.out b6)
      have T6 := Lib.hid (T5.out.below b6)
      clear R6 Z5 B5 T5 b6
      generalize w5.heap.size = g5 at RB6 hg05 hw5 h35 ⊢
      have step : ∀ wa wb : World, Hid (FB wa g0 uZ) → Hid (Below w.heap.size w wa) → Hid (Tabs wa) → Below g5 wa wb → Hid (FB wb g0 uZ) ∧ Hid (Below w.heap.size w wb) ∧ Hid (Tabs wb) := fun _ _ z b t h => ⟨Lib.hid ((h.block g0 hg05).trans z.out), Lib.hid (below_weaken b.out hw5 h), Lib.hid (TabsTo t.out h h35)⟩
      have STEP := Lib.hid step
      clear step
      refine (scheme_walk g5 r2 uZ _ (by omega) RB6.out).mono ?_
      rintro e w7 ⟨b, rfl, b7, HS⟩
      obtain ⟨Z7, B7, T7⟩ := STEP.out _ _ Z6 B6 T6 b7
      clear Z6 B6 T6 b7 RB6
      rcases HS.out with ⟨rfl, d, r3, hp, hb, hr⟩ | ⟨rfl, hno⟩
      · rw [E5.out] at hp hb hr
        have HR := Lib.hid (url_rest (r := bs r3) c2 (Prod.ext rfl hb) hp)
        have HP := Lib.hid (show (portP (Web.lowerL (Web.brk (· == 58) (Web.clean (bs s))).1)).1 = (d : Int) by unfold portP; rw [hp])
        have hs3 : r3.size ≤ s.size := by
          have h1 := brk_snd_len (· == 58) (Web.clean (bs s))
          have h2 := clean_len (bs s)
          rw [hb, List.length_cons, bs_len] at h1
          rw [bs_len] at h2
          omega
        obtain ⟨sch, hsch⟩ : ∃ x, Web.lowerL (Web.brk (· == 58) (Web.clean (bs s))).1 = x := ⟨_, rfl⟩
        rw [hsch] at HR HP hr
        have RB7 := Lib.hid hr
        clear hp hb hr hsch HS
        go_wp2_with fail
        go_loopw [31] (fun v31 wr => ∃ x : ByteArray, Hid (RB wr g5 x { uZ with scheme := sch }) ∧ Hid ((bs x).dropWhile Web.slash = (bs r3).dropWhile Web.slash) ∧ x.size ≤ r3.size ∧ Hid (FB wr g0 uZ) ∧ Hid (Below w.heap.size w wr) ∧ Hid (Tabs wr)) (fun _ wr => vStr (wr.cell? ⟨g5, 0, none⟩))
        case atStart => exact ⟨r3, RB7, Lib.hid rfl, Nat.le_refl _, Z7, B7, T7⟩
        case round =>
          obtain ⟨x, RB8, HX, hx, Z8, B8, T8⟩ := hrel
          go_wp2_with fail
          refine (pass_walk g5 x [47, 92] Web.slash isSlash2 _ _ (by omega) RB8.out).mono ?_
          rintro e w9 ⟨b, rfl, b9, HQ⟩
          obtain ⟨Z9, B9, T9⟩ := STEP.out _ _ Z8 B8 T8 b9
          have C8 := Lib.hid RB8.out.c0
          clear Z8 B8 T8 b9 RB8
          rcases HQ.out with ⟨rfl, c, r, hc, hq, hr⟩ | ⟨rfl, hc, hr⟩
          · have RB9 := Lib.hid hr
            have hrx : r.size + 1 = x.size := by
              have := congrArg List.length hc
              rw [bs_len, List.length_cons, bs_len] at this
              omega
            have HX9 := Lib.hid (show (bs r).dropWhile Web.slash = (bs r3).dropWhile Web.slash by rw [← HX.out, hc, List.dropWhile_cons_of_pos hq])
            clear hc hq hr HQ HX
            go_wp2_with fail
            go_roundw
            case rel => exact ⟨r, RB9, HX9, by omega, Z9, B9, T9⟩
            case measure => rw [C8.out, RB9.out.c0]; show r.size < x.size; omega
          · have RB9 := Lib.hid hr
            have HX9 := Lib.hid (slash_stop HX.out hc)
            clear hc hr HQ HX C8
            go_wp2_with fail
            refine (authority_walk g5 d x { uZ with scheme := sch } _ (by omega) HP.out ⟨rfl, rfl⟩ RB9.out).mono ?_
            rintro e w10 ⟨b, rfl, b10, HA⟩
            obtain ⟨Z10, B10, T10⟩ := STEP.out _ _ Z9 B9 T9 b10
            clear Z9 B9 T9 b10 RB9
            rcases HA.out with ⟨rfl, us, ps, ho, pn, r4, ha, hr4, hrb⟩ | ⟨rfl, ha⟩
            · have RB10 := Lib.hid hrb
              have HA4 := Lib.hid ha
              have HR4 := Lib.hid hr4
              have hs4 : r4.size ≤ x.size := by rw [← bs_len, hr4, ← bs_len x]; exact brk_snd_len _ _
              have HH := Lib.hid (show HeadEnds (bs r4) by rw [hr4]; exact headEnds_brk (bs x))
              clear ha hr4 hrb HA
              go_wp2_with fail
              refine (path_walk g5 r4 _ _ (by omega) RB10.out h35 T10.out.2.1 HH.out).mono ?_
              rintro e w11 ⟨⟨v, rfl⟩, b11, r5, HP5⟩
              obtain ⟨Z11, B11, T11⟩ := STEP.out _ _ Z10 B10 T10 b11
              have RB11 := Lib.hid HP5.out.2
              have H5 := Lib.hid HP5.out.1
              have hs5 : r5.size ≤ r4.size := by rw [← bs_len, H5.out, ← bs_len r4]; exact brk_snd_len _ _
              clear Z10 B10 T10 b11 RB10 HP5 HH
              go_wp2_with fail
              refine (pass_walk g5 r5 [63] (· == 63) is63 _ _ (by omega) RB11.out).mono ?_
              rintro e w12 ⟨b, rfl, b12, HQ⟩
              obtain ⟨Z12, B12, T12⟩ := STEP.out _ _ Z11 B11 T11 b12
              clear Z11 B11 T11 b12 RB11
              have hq6 : ∃ r6 : ByteArray, RB w12 g5 r6 ⟨sch, us, ps, ho, pn, Web.path (Web.brk qf (bs r4)).1, false, [], false, []⟩ ∧ r6.size ≤ r5.size ∧ ((b = true ∧ ∃ c, bs r5 = c :: bs r6 ∧ (c == 63) = true) ∨ (b = false ∧ r6 = r5 ∧ ∀ c r, bs r5 = c :: r → (c == 63) = false)) := by
                rcases HQ.out with ⟨hb, c, r, hc, hq, hr⟩ | ⟨hb, hc, hr⟩
                · refine ⟨r, hr, ?_, .inl ⟨hb, c, hc, hq⟩⟩
                  have := congrArg List.length hc
                  rw [bs_len, List.length_cons, bs_len] at this
                  omega
                · exact ⟨r5, hr, Nat.le_refl _, .inr ⟨hb, rfl, hc⟩⟩
              obtain ⟨r6, hr6, hs6, hq6⟩ := hq6
              have q7 := hr6.c7
              have f7 := hr6.f 7
              have RB13 := Lib.hid (hr6.set7 b)
              have q7b := RB13.out.c7
              have HQ6 := Lib.hid hq6
              obtain ⟨Z13, B13, T13⟩ := STEP.out _ _ Z12 B12 T12 ((Below.refl g5 w12).setCell (p := ⟨g5, 7, none⟩) (Nat.le_refl _) (.bool b))
              clear HQ hq6 hr6 Z12 B12 T12
              go_upto_if 50 with (fail)
              clear q7 f7 q7b
              generalize w12.setCell ⟨g5, 7, none⟩ (.bool b) = w13 at RB13 Z13 B13 T13 ⊢
              go_cut [55] (fun _ wc => ∃ r7 : ByteArray, Hid (RB wc g5 r7 ⟨sch, us, ps, ho, pn, Web.path (Web.brk qf (bs r4)).1, !(Web.brk (· == 35) (bs r5)).1.isEmpty, Web.enc 2 ((Web.brk (· == 35) (bs r5)).1.drop 1), false, []⟩) ∧ Hid (bs r7 = (Web.brk (· == 35) (bs r5)).2) ∧ r7.size ≤ r5.size ∧ Hid (FB wc g0 uZ) ∧ Hid (Below w.heap.size w wc) ∧ Hid (Tabs wc))
              case first =>
                rcases HQ6.out with ⟨rfl, c, hc, hq⟩ | ⟨rfl, rfl, hc⟩
                · have HY := Lib.hid (q_yes hc hq)
                  clear hc hq HQ6
                  go_wp2_with fail
                  refine (upTo_walk g5 r6 [35] (· == 35) is35 _ _ (by omega) RB13.out).mono ?_
                  rintro e w14 ⟨a, r7, rfl, HA7, b14, RB14⟩
                  obtain ⟨Z14, B14, T14⟩ := STEP.out _ _ Z13 B13 T13 b14
                  clear Z13 B13 T13 b14 RB13
                  have ha7 : a.size ≤ r6.size := by rw [← bs_len, HA7.out.1, ← bs_len r6]; exact brk_fst_len _ _
                  have hr7 : r7.size ≤ r6.size := by rw [← bs_len, HA7.out.2, ← bs_len r6]; exact brk_snd_len _ _
                  go_wp2_with fail
                  refine (pencode_c a 2 _ (by omega) (by decide)).mono ?_
                  rintro e w15 ⟨q, rfl, HE, hqs, b15⟩
                  have RB15 := Lib.hid (RB14.out.below b15)
                  have Z15 := Lib.hid (Z14.out.below b15)
                  have B15 := Lib.hid (below_step B14.out b15)
                  have T15 := Lib.hid (T14.out.below b15)
                  clear Z14 B14 T14 b15 RB14
                  have q8 := RB15.out.c8
                  have f8 := RB15.out.f 8
                  have RB16 := Lib.hid (RB15.out.set8 (bs q))
                  obtain ⟨Z16, B16, T16⟩ := STEP.out _ _ Z15 B15 T15 ((Below.refl g5 w15).setCell (p := ⟨g5, 8, none⟩) (Nat.le_refl _) (.string q))
                  clear Z15 B15 T15 RB15
                  go_wp2_with fail
                  go_meet
                  case rel =>
                    refine ⟨r7, Lib.hid ?_, Lib.hid ?_, by omega, Z16, B16, T16⟩
                    · have e9 : bs q = Web.enc 2 (List.drop 1 (63 :: (Web.brk (· == 35) (bs r6)).1)) := by rw [HE.out, HA7.out.1]; rfl
                      rw [HY.out]
                      dsimp only
                      rw [← e9]
                      exact RB16.out
                    · rw [HY.out, HA7.out.2]
                · have HY := Lib.hid (q_no H5.out hc)
                  clear hc HQ6
                  go_wp2_with fail
                  go_meet
                  case rel =>
                    refine ⟨r6, Lib.hid ?_, Lib.hid ?_, Nat.le_refl _, Z13, B13, T13⟩
                    · rw [HY.out]; exact RB13.out
                    · rw [HY.out]
              case rest =>
                obtain ⟨r7, RB17, H7, hs7, Z17, B17, T17⟩ := hcut
                clear RB13 Z13 B13 T13 HQ6
                obtain ⟨uq, huq⟩ : ∃ x : Web.U, x = ⟨sch, us, ps, ho, pn, Web.path (Web.brk qf (bs r4)).1, !(Web.brk (· == 35) (bs r5)).1.isEmpty, Web.enc 2 ((Web.brk (· == 35) (bs r5)).1.drop 1), false, []⟩ := ⟨_, rfl⟩
                rw [← huq] at RB17
                have HUQ := Lib.hid huq
                clear huq
                go_wp2_with fail
                refine (pass_walk g5 r7 [35] (· == 35) is35 _ _ (by omega) RB17.out).mono ?_
                rintro e w18 ⟨b, rfl, b18, HQ⟩
                obtain ⟨Z18, B18, T18⟩ := STEP.out _ _ Z17 B17 T17 b18
                clear Z17 B17 T17 b18 RB17
                have hq8 : ∃ r8 : ByteArray, RB w18 g5 r8 uq ∧ r8.size ≤ r7.size ∧ ((b = true ∧ ∃ c, bs r7 = c :: bs r8 ∧ (c == 35) = true) ∨ (b = false ∧ ∀ c r, bs r7 = c :: r → (c == 35) = false)) := by
                  rcases HQ.out with ⟨hb, c, r, hc, hq, hr⟩ | ⟨hb, hc, hr⟩
                  · refine ⟨r, hr, ?_, .inl ⟨hb, c, hc, hq⟩⟩
                    have := congrArg List.length hc
                    rw [bs_len, List.length_cons, bs_len] at this
                    omega
                  · exact ⟨r7, hr, Nat.le_refl _, .inr ⟨hb, hc⟩⟩
                obtain ⟨r8, hr8, hs8, hq8⟩ := hq8
                have q9 := hr8.c9
                have f9 := hr8.f 9
                have RB19 := Lib.hid (hr8.set9 b)
                have q9b := RB19.out.c9
                have HQ8 := Lib.hid hq8
                obtain ⟨Z19, B19, T19⟩ := STEP.out _ _ Z18 B18 T18 ((Below.refl g5 w18).setCell (p := ⟨g5, 9, none⟩) (Nat.le_refl _) (.bool b))
                clear HQ hq8 hr8 Z18 B18 T18
                go_upto_if 72 with (fail)
                clear q9 f9 q9b
                generalize w18.setCell ⟨g5, 9, none⟩ (.bool b) = w19 at RB19 Z19 B19 T19 ⊢
                go_cut [78] (fun _ wc => ∃ r9 : ByteArray, Hid (RB wc g5 r9 ⟨sch, us, ps, ho, pn, Web.path (Web.brk qf (bs r4)).1, !(Web.brk (· == 35) (bs r5)).1.isEmpty, Web.enc 2 ((Web.brk (· == 35) (bs r5)).1.drop 1), !(Web.brk (· == 35) (bs r5)).2.isEmpty, Web.enc 1 ((Web.brk (· == 35) (bs r5)).2.drop 1)⟩) ∧ Hid (FB wc g0 uZ) ∧ Hid (Below w.heap.size w wc))
                case first =>
                  rcases HQ8.out with ⟨rfl, c, hc, hq⟩ | ⟨rfl, hc⟩
                  · have HY := Lib.hid (show (Web.brk (· == 35) (bs r5)).2 = 35 :: bs r8 by
                      have e : c = 35 := by simpa using hq
                      rw [← H7.out, hc, e])
                    clear hc hq HQ8
                    have q0 := RB19.out.c0
                    go_wp2_with fail
                    refine (pencode_c r8 1 _ (by omega) (by decide)).mono ?_
                    rintro e w20 ⟨f, rfl, HE, hfs, b20⟩
                    have RB20 := Lib.hid (RB19.out.below b20)
                    have Z20 := Lib.hid (Z19.out.below b20)
                    have B20 := Lib.hid (below_step B19.out b20)
                    have T20 := Lib.hid (T19.out.below b20)
                    clear Z19 B19 T19 b20 RB19 q0
                    have q10 := RB20.out.c10
                    have f10 := RB20.out.f 10
                    have RB21 := Lib.hid (RB20.out.set10 (bs f))
                    obtain ⟨Z21, B21, T21⟩ := STEP.out _ _ Z20 B20 T20 ((Below.refl g5 w20).setCell (p := ⟨g5, 10, none⟩) (Nat.le_refl _) (.string f))
                    clear Z20 B20 T20 RB20
                    go_wp2_with fail
                    go_meet
                    case rel =>
                      refine ⟨r8, Lib.hid ?_, Z21, B21⟩
                      have e9 : bs f = Web.enc 1 (List.drop 1 (35 :: bs r8)) := by rw [HE.out]; rfl
                      rw [HY.out, ← e9]
                      have := RB21.out
                      rw [HUQ.out] at this
                      exact this
                  · have HY := Lib.hid (show (Web.brk (· == 35) (bs r5)).2 = [] from f_no rfl (by rw [← H7.out]; exact hc))
                    clear hc HQ8
                    go_wp2_with fail
                    go_meet
                    case rel =>
                      refine ⟨r8, Lib.hid ?_, Z19, B19⟩
                      have := RB19.out
                      rw [HUQ.out] at this
                      rw [HY.out]
                      exact this
                case rest =>
                  obtain ⟨r9, RB22, Z22, B22⟩ := hcut
                  clear RB19 Z19 B19 T19 HQ8
                  obtain ⟨uu, huu⟩ : ∃ x : Web.U, x = ⟨sch, us, ps, ho, pn, Web.path (Web.brk qf (bs r4)).1, !(Web.brk (· == 35) (bs r5)).1.isEmpty, Web.enc 2 ((Web.brk (· == 35) (bs r5)).1.drop 1), !(Web.brk (· == 35) (bs r5)).2.isEmpty, Web.enc 1 ((Web.brk (· == 35) (bs r5)).2.drop 1)⟩ := ⟨_, rfl⟩
                  rw [← huu] at RB22
                  have HUU := Lib.hid huu
                  clear huu
                  obtain ⟨zc0, zc1, zc2, zc3, zc4, zc5, zc6, zc7, zc8, zc9⟩ := Z22.out.cells
                  obtain ⟨zf0, zf1, zf2, zf3, zf4, zf5, zf6, zf7, zf8, zf9⟩ := Z22.out.frozens
                  have uc1 := RB22.out.c1; have uc2 := RB22.out.c2; have uc3 := RB22.out.c3; have uc4 := RB22.out.c4; have uc5 := RB22.out.c5
                  have uc6 := RB22.out.c6; have uc7 := RB22.out.c7; have uc8 := RB22.out.c8; have uc9 := RB22.out.c9; have uc10 := RB22.out.c10
                  go_wp2_with fail
                  refine bodyPost_ret (results_ct rfl _ _ g0 24 _ (0, 0) _ rfl (Z22.out.put uu) Tryz.underlying24 rfl (by kernel_rfl)) rfl ⟨?_, put10 B22.out G0.out⟩
                  have fin : Web.url (bs s) = some uu := by
                    rw [HR.out, HUU.out]
                    refine urlRest_some (h := ho) (n := pn) (u := us) (p := ps) ?_ ?_ ?_
                    · rw [HX9.out]
                      unfold authIs
                      rw [HA4.out]
                      exact ⟨rfl, rfl⟩
                    · rw [HX9.out, ← HR4.out]; rfl
                    · rw [HX9.out, ← HR4.out]
                      have e := H5.out
                      unfold qf at e
                      rw [← e]
                  rw [fin]
                  rfl
            · have HN := Lib.hid (show Web.url (bs s) = none by rw [HR.out]; unfold urlRest; rw [HX9.out, ha])
              clear ha HA HX9 HR
              obtain ⟨zc0, zc1, zc2, zc3, zc4, zc5, zc6, zc7, zc8, zc9⟩ := Z10.out.cells
              obtain ⟨zf0, zf1, zf2, zf3, zf4, zf5, zf6, zf7, zf8, zf9⟩ := Z10.out.frozens
              go_wp2_with fail
              refine bodyPost_ret (results_ct rfl _ _ g0 24 _ (0, 0) _ rfl (Z10.out.put uZ) Tryz.underlying24 rfl (by kernel_rfl)) rfl ⟨?_, put10 B10.out G0.out⟩
              rw [HN.out]
              rfl
      · rw [E5.out] at hno
        have HN := Lib.hid (url_none hno)
        clear hno HS
        obtain ⟨zc0, zc1, zc2, zc3, zc4, zc5, zc6, zc7, zc8, zc9⟩ := Z7.out.cells
        obtain ⟨zf0, zf1, zf2, zf3, zf4, zf5, zf6, zf7, zf8, zf9⟩ := Z7.out.frozens
        go_wp2_with fail
        refine bodyPost_ret (results_ct rfl _ _ g0 24 _ (0, 0) _ rfl (Z7.out.put uZ) Tryz.underlying24 rfl (by kernel_rfl)) rfl ⟨?_, put10 B7.out G0.out⟩
        rw [HN.out]
        rfl
    · have c2' := Bool.eq_false_iff.2 c2
      obtain ⟨zc0, zc1, zc2, zc3, zc4, zc5, zc6, zc7, zc8, zc9⟩ := Z1.out.cells
      obtain ⟨zf0, zf1, zf2, zf3, zf4, zf5, zf6, zf7, zf8, zf9⟩ := Z1.out.frozens
      rw [c2']
      go_wp2_with fail
      refine bodyPost_ret (results_ct rfl _ _ g0 24 _ (0, 0) _ rfl (Z1.out.put uZ) Tryz.underlying24 rfl (by kernel_rfl)) rfl ⟨?_, put10 B1.out G0.out⟩
      unfold Web.url
      rw [c2']
      rfl
end Go.Proofs.YtcmcopieagpppaaGreatDoor.P
namespace Go.Proofs.YtcmcopieagpppaaGreatDoor.P
set_option linter.unusedVariables false
set_option linter.unusedSimpArgs false
structure O where
  scheme : List UInt8
  host : List UInt8
  port : Int
deriving DecidableEq
def O.zero : O := ⟨[], [], 0⟩
end Go.Proofs.YtcmcopieagpppaaGreatDoor.P
namespace Go.Proofs.YtcmcopieagpppaaGreatDoor.P
set_option linter.unusedVariables false
set_option linter.unusedSimpArgs false
def awT : List UInt8 := [72, 84, 84, 80, 83, 58, 92, 92, 69, 120, 46, 99, 111, 109, 58, 52, 52, 51, 92, 97, 92, 46, 46, 92, 98, 63, 113, 35, 102]
def awU : Web.U := ⟨[104, 116, 116, 112, 115], [], [], [101, 120, 46, 99, 111, 109], -1, [47, 98], true, [113], true, [102]⟩
theorem aw_parse : Web.parse awT = some awU := by decide +kernel
def xs (n : Nat) : List (List UInt8) := List.replicate n [120]
end Go.Proofs.YtcmcopieagpppaaGreatDoor.P
namespace Go.Proofs.YtcmcopieagpppaaGreatDoor.P
open Go.RowKit Go.Proofs.YtcmcopieagpppaaGreatDoorW.PrintWords Go.Proofs.YtcmcopieagpppaaGreatDoorW.PrintLast Go.Proofs.YtcmcopieagpppaaGreatDoorW.PrintMore
set_option linter.unusedVariables false
set_option linter.unusedSimpArgs false
set_option maxRecDepth 100000 in
theorem port_c (s0 s1 s2 s3 : ByteArray) (p : Int) (s5 : ByteArray) (b6 : Bool) (s7 : ByteArray) (b8 : Bool) (s9 : ByteArray) (w : World) :
    Calls Tryz.prog 29 #[.agg #[.string s0, .string s1, .string s2, .string s3, .int .i64 p, .string s5, .bool b6, .string s7, .bool b8, .string s9]] w fun e w' => e = .returned (.int .i64 (if p = -1 then (portP (bs s0)).1 else p)) ∧ Below w.heap.size w w' := by
  have B := Lib.hid (Below.refl w.heap.size w)
  by_cases hp : p = -1
  · have hp' : (p != -1) = false := by simp [hp]
    rw [if_pos hp]
    clear hp
    go_enter Tryz.func29, Tryz.ntmps29
    go_wp2_with (go_at_call 25; refine (url_default_c s0 _).mono ?_; rintro e w1 ⟨rfl, hb⟩; have HB := Lib.hid (below_step (below_alloc B.out _) hb.below); clear hb)
    go_ret
    exact ⟨rfl, HB.out⟩
  · have hp' : (p != -1) = true := by simp [hp]
    rw [if_neg hp]
    clear hp
    go_enter Tryz.func29, Tryz.ntmps29
    go_wp2_with fail
    go_ret
    exact ⟨rfl, below_alloc B.out _⟩
set_option maxRecDepth 100000 in
theorem ref_port_c (s0 s1 s2 s3 : ByteArray) (p : Int) (s5 : ByteArray) (b6 : Bool) (s7 : ByteArray) (b8 : Bool) (s9 : ByteArray) (w : World) :
    Calls Tryz.prog 30 #[.agg #[.string s0, .string s1, .string s2, .string s3, .int .i64 p, .string s5, .bool b6, .string s7, .bool b8, .string s9]] w fun e w' => e = .returned (.int .i64 (if p = -1 then (portP (bs s0)).1 else p)) ∧ Below w.heap.size w w' := by
  have B := Lib.hid (Below.refl w.heap.size w)
  by_cases hp : p = -1
  · have hp' : (p != -1) = false := by simp [hp]
    rw [if_pos hp]
    clear hp
    go_enter Tryz.func30, Tryz.ntmps30
    go_wp2_with (go_at_call 26; refine (ref_default_c s0 _).mono ?_; rintro e w1 ⟨rfl, hb⟩; have HB := Lib.hid (below_step (below_alloc B.out _) hb); clear hb)
    go_ret
    exact ⟨rfl, HB.out⟩
  · have hp' : (p != -1) = true := by simp [hp]
    rw [if_neg hp]
    clear hp
    go_enter Tryz.func30, Tryz.ntmps30
    go_wp2_with fail
    go_ret
    exact ⟨rfl, below_alloc B.out _⟩
end Go.Proofs.YtcmcopieagpppaaGreatDoor.P
namespace Go.Proofs.YtcmcopieagpppaaGreatDoor.P
open Go.RowKit Go.Proofs.YtcmcopieagpppaaGreatDoorW.PrintWords Go.Proofs.YtcmcopieagpppaaGreatDoorW.PrintLast Go.Proofs.YtcmcopieagpppaaGreatDoorW.PrintMore
set_option linter.unusedVariables false
set_option linter.unusedSimpArgs false
def UK (w : World) (g : Nat) (x0 x1 x2 x3 : ByteArray) (x4 : Int) (x5 : ByteArray) (x6 : Bool) (x7 : ByteArray) (x8 : Bool) (x9 : ByteArray) : Prop := w.heap[g]? = some (.cells #[.string x0, .string x1, .string x2, .string x3, .int .i64 x4, .string x5, .bool x6, .string x7, .bool x8, .string x9] 24 (0, 0))
theorem UK.below {w w1 : World} {g : Nat} {x0 x1 x2 x3 : ByteArray} {x4 : Int} {x5 : ByteArray} {x6 : Bool} {x7 : ByteArray} {x8 : Bool} {x9 : ByteArray} (h : UK w g x0 x1 x2 x3 x4 x5 x6 x7 x8 x9) (hb : Below w.heap.size w w1) : UK w1 g x0 x1 x2 x3 x4 x5 x6 x7 x8 x9 := blk_below h hb
theorem UK.lt {w : World} {g : Nat} {x0 x1 x2 x3 : ByteArray} {x4 : Int} {x5 : ByteArray} {x6 : Bool} {x7 : ByteArray} {x8 : Bool} {x9 : ByteArray} (h : UK w g x0 x1 x2 x3 x4 x5 x6 x7 x8 x9) : g < w.heap.size := blk_lt h
theorem UK.cells {w : World} {g : Nat} {x0 x1 x2 x3 : ByteArray} {x4 : Int} {x5 : ByteArray} {x6 : Bool} {x7 : ByteArray} {x8 : Bool} {x9 : ByteArray} (h : UK w g x0 x1 x2 x3 x4 x5 x6 x7 x8 x9) : w.cell? ⟨g, 0, none⟩ = some (.string x0) ∧ w.cell? ⟨g, 1, none⟩ = some (.string x1) ∧ w.cell? ⟨g, 2, none⟩ = some (.string x2) ∧ w.cell? ⟨g, 3, none⟩ = some (.string x3) ∧ w.cell? ⟨g, 4, none⟩ = some (.int .i64 x4) ∧ w.cell? ⟨g, 5, none⟩ = some (.string x5) ∧ w.cell? ⟨g, 6, none⟩ = some (.bool x6) ∧ w.cell? ⟨g, 7, none⟩ = some (.string x7) ∧ w.cell? ⟨g, 8, none⟩ = some (.bool x8) ∧ w.cell? ⟨g, 9, none⟩ = some (.string x9) :=
  ⟨(blk_cell h 0).trans rfl, (blk_cell h 1).trans rfl, (blk_cell h 2).trans rfl, (blk_cell h 3).trans rfl, (blk_cell h 4).trans rfl, (blk_cell h 5).trans rfl, (blk_cell h 6).trans rfl, (blk_cell h 7).trans rfl, (blk_cell h 8).trans rfl, (blk_cell h 9).trans rfl⟩
theorem UK.make (x0 x1 x2 x3 : ByteArray) (x4 : Int) (x5 : ByteArray) (x6 : Bool) (x7 : ByteArray) (x8 : Bool) (x9 : ByteArray) {w w1 : World} (hB : Below w.heap.size w w1) (hT : Tabs w1) : ∃ (w2 : World) (g : Nat), w1.alloc (.cells #[.string x0, .string x1, .string x2, .string x3, .int .i64 x4, .string x5, .bool x6, .string x7, .bool x8, .string x9] 24 (0, 0)) = w2 ∧ w1.heap.size = g ∧ Hid (UK w2 g x0 x1 x2 x3 x4 x5 x6 x7 x8 x9) ∧ Hid (Below w.heap.size w w2) ∧ Hid (Tabs w2) ∧ Below w1.heap.size w1 w2 := by
  have b := below_alloc (Below.refl w1.heap.size w1) (.cells #[.string x0, .string x1, .string x2, .string x3, .int .i64 x4, .string x5, .bool x6, .string x7, .bool x8, .string x9] 24 (0, 0))
  exact ⟨_, _, rfl, rfl, Lib.hid (heap_alloc_new w1 _), Lib.hid (below_step hB b), Lib.hid (hT.below b), b⟩
end Go.Proofs.YtcmcopieagpppaaGreatDoor.P
namespace Go.Proofs.YtcmcopieagpppaaGreatDoor.P
open Go.RowKit Go.Proofs.YtcmcopieagpppaaGreatDoorW.PrintWords Go.Proofs.YtcmcopieagpppaaGreatDoorW.PrintLast Go.Proofs.YtcmcopieagpppaaGreatDoorW.PrintMore
set_option linter.unusedVariables false
set_option linter.unusedSimpArgs false
theorem bs_app (a b : ByteArray) : bs (a ++ b) = bs a ++ bs b := by
  have := ba_append (bs a) (bs b)
  rw [ba_bs, ba_bs] at this
  rw [this]
  rfl
theorem bs_lit (l : List UInt8) : bs ⟨l.toArray⟩ = l := rfl
def urlA (s0 s1 s2 s3 : ByteArray) (p : Int) (s5 : ByteArray) (b6 : Bool) (s7 : ByteArray) (b8 : Bool) (s9 : ByteArray) : Value := .agg #[.string s0, .string s1, .string s2, .string s3, .int .i64 p, .string s5, .bool b6, .string s7, .bool b8, .string s9]
def urlU (s0 s1 s2 s3 : ByteArray) (p : Int) (s5 : ByteArray) (b6 : Bool) (s7 : ByteArray) (b8 : Bool) (s9 : ByteArray) : Web.U := ⟨bs s0, bs s1, bs s2, bs s3, p, bs s5, b6, bs s7, b8, bs s9⟩
theorem bcell2 {W w1 : World} (hb : Below W.heap.size W w1) : (∀ b o, b < W.heap.size → w1.cell? ⟨b, o, none⟩ = W.cell? ⟨b, o, none⟩) ∧ (∀ b o, b < W.heap.size → w1.frozen? ⟨b, o, none⟩ = W.frozen? ⟨b, o, none⟩) :=
  ⟨fun b o h => hb.cell (p := ⟨b, o, none⟩) h, fun b o h => hb.frozen (p := ⟨b, o, none⟩) h⟩
set_option maxRecDepth 100000 in
set_option maxHeartbeats 8000000 in
theorem text_walk (s0 s1 s2 s3 : ByteArray) (p : Int) (s5 : ByteArray) (b6 : Bool) (s7 : ByteArray) (b8 : Bool) (s9 : ByteArray) (w : World) (hp0 : -1 ≤ p) (hp1 : p ≤ 65535) (hs : s0.size + s1.size + s2.size + s3.size + s5.size + s7.size + s9.size ≤ 1000000) :
    Calls Tryz.prog 27 #[urlA s0 s1 s2 s3 p s5 b6 s7 b8 s9] w fun e w' => ∃ t : ByteArray, e = .returned (.string t) ∧ Hid (bs t = Web.text (urlU s0 s1 s2 s3 p s5 b6 s7 b8 s9)) ∧ Below w.heap.size w w' := by
  unfold urlA
  have y1 : (⟨#[58, 47, 47]⟩ : ByteArray).size = 3 := rfl
  have y2 : (⟨#[58]⟩ : ByteArray).size = 1 := rfl
  have y3 : (⟨#[64]⟩ : ByteArray).size = 1 := rfl
  have y4 : (⟨#[63]⟩ : ByteArray).size = 1 := rfl
  have y5 : (⟨#[35]⟩ : ByteArray).size = 1 := rfl
  have z1 : s1.toList.isEmpty = (bs s1).isEmpty := by rw [bs_toList]
  have z2 : s2.toList.isEmpty = (bs s2).isEmpty := by rw [bs_toList]
  have e : Hid (Web.text (urlU s0 s1 s2 s3 p s5 b6 s7 b8 s9) = bs s0 ++ [58, 47, 47] ++ (if (bs s1).isEmpty ∧ (bs s2).isEmpty then [] else bs s1 ++ (if (bs s2).isEmpty then [] else 58 :: bs s2) ++ [64]) ++ bs s3 ++ (if p = -1 then [] else 58 :: Web.portText p) ++ bs s5 ++ (if b6 then 63 :: bs s7 else []) ++ (if b8 then 35 :: bs s9 else [])) := Lib.hid (by
    unfold Web.text urlU
    simp only [List.isEmpty_iff])
  have B := Lib.hid (Below.refl w.heap.size w)
  by_cases hp : p = -1
  · have hp' : (p != -1) = false := by simp [hp]
    cases h1 : (bs s1).isEmpty <;> cases h2 : (bs s2).isEmpty <;> cases b6 <;> cases b8
    all_goals
      rw [h1] at z1
      rw [h2] at z2
      have H1 := Lib.hid h1
      have H2 := Lib.hid h2
      have HP := Lib.hid hp
      clear h1 h2 hp
      go_enter Tryz.func27, Tryz.ntmps27
      go_wp2_with fail
      go_ret
      refine ⟨_, rfl, Lib.hid ?_, below_alloc B.out _⟩
      rw [e.out, H1.out, H2.out, if_pos HP.out]
      simp [bs_app, bs_lit]
  · have hp' : (p != -1) = true := by simp [hp]
    have hpt : Hid (Web.portText p = Web.decimal p.toNat) := Lib.hid (by
      obtain ⟨n, rfl⟩ := Int.eq_ofNat_of_zero_le (show 0 ≤ p by omega)
      exact portText_nat n)
    have hp2 : 0 ≤ p := by omega
    cases h1 : (bs s1).isEmpty <;> cases h2 : (bs s2).isEmpty <;> cases b6 <;> cases b8
    all_goals
      rw [h1] at z1
      rw [h2] at z2
      have H1 := Lib.hid h1
      have H2 := Lib.hid h2
      have HP := Lib.hid hp
      clear h1 h2 hp
      go_enter Tryz.func27, Tryz.ntmps27
      go_wp2_with (go_at_call 69; refine (ascii_decimal_out p _ hp2 (by omega)).mono ?_; rintro e w1 ⟨d, rfl, HD, hd, hb⟩; have HB := Lib.hid (below_step (below_alloc B.out _) hb); obtain ⟨hcc, hff⟩ := bcell2 hb; clear hb)
      go_ret
      refine ⟨_, rfl, Lib.hid ?_, HB.out⟩
      rw [e.out, H1.out, H2.out, if_neg HP.out, hpt.out]
      simp [bs_app, bs_lit, HD.out, bs_ba]
end Go.Proofs.YtcmcopieagpppaaGreatDoor.P
namespace Go.Proofs.YtcmcopieagpppaaGreatDoor.P
open Go.RowKit Go.Proofs.YtcmcopieagpppaaGreatDoorW.PrintWords Go.Proofs.YtcmcopieagpppaaGreatDoorW.PrintLast Go.Proofs.YtcmcopieagpppaaGreatDoorW.PrintMore
set_option linter.unusedVariables false
set_option linter.unusedSimpArgs false
theorem aw_none : Web.parse [102, 105, 108, 101, 58, 47, 47, 47, 97] = none := by decide +kernel
theorem aw_p1 (W : World) (hT : Tabs W) : Calls Tryz.prog 22 #[.string ⟨#[72, 84, 84, 80, 83, 58, 92, 92, 69, 120, 46, 99, 111, 109, 58, 52, 52, 51, 92, 97, 92, 46, 46, 92, 98, 63, 113, 35, 102]⟩] W fun e w' => e = .returned (.tuple #[.agg #[.string ⟨#[104, 116, 116, 112, 115]⟩, .string ⟨#[]⟩, .string ⟨#[]⟩, .string ⟨#[101, 120, 46, 99, 111, 109]⟩, .int .i64 (-1), .string ⟨#[47, 98]⟩, .bool true, .string ⟨#[113]⟩, .bool true, .string ⟨#[102]⟩], .int .i64 0]) ∧ Below W.heap.size W w' := by
  have k := url_parse_walk ⟨#[72, 84, 84, 80, 83, 58, 92, 92, 69, 120, 46, 99, 111, 109, 58, 52, 52, 51, 92, 97, 92, 46, 46, 92, 98, 63, 113, 35, 102]⟩ W hT
  rw [show Web.parse (bs ⟨#[72, 84, 84, 80, 83, 58, 92, 92, 69, 120, 46, 99, 111, 109, 58, 52, 52, 51, 92, 97, 92, 46, 46, 92, 98, 63, 113, 35, 102]⟩) = some awU from aw_parse] at k
  exact k
theorem aw_p2 (W : World) (hT : Tabs W) : Calls Tryz.prog 22 #[.string ⟨#[102, 105, 108, 101, 58, 47, 47, 47, 97]⟩] W fun e w' => e = .returned (.tuple #[.agg #[.string ⟨#[]⟩, .string ⟨#[]⟩, .string ⟨#[]⟩, .string ⟨#[]⟩, .int .i64 0, .string ⟨#[]⟩, .bool false, .string ⟨#[]⟩, .bool false, .string ⟨#[]⟩], .int .i64 8]) ∧ Below W.heap.size W w' := by
  have k := url_parse_walk ⟨#[102, 105, 108, 101, 58, 47, 47, 47, 97]⟩ W hT
  rw [show Web.parse (bs ⟨#[102, 105, 108, 101, 58, 47, 47, 47, 97]⟩) = none from aw_none] at k
  exact k
theorem aw_text : Web.text awU = bs ⟨#[104, 116, 116, 112, 115, 58, 47, 47, 101, 120, 46, 99, 111, 109, 47, 98, 63, 113, 35, 102]⟩ := by decide +kernel
theorem bs_inj {a b : ByteArray} (h : bs a = bs b) : a = b := by
  rw [← ba_bs a, ← ba_bs b, h]
theorem aw_t1 (W : World) : Calls Tryz.prog 27 #[.agg #[.string ⟨#[104, 116, 116, 112, 115]⟩, .string ⟨#[]⟩, .string ⟨#[]⟩, .string ⟨#[101, 120, 46, 99, 111, 109]⟩, .int .i64 (-1), .string ⟨#[47, 98]⟩, .bool true, .string ⟨#[113]⟩, .bool true, .string ⟨#[102]⟩]] W fun e w' => e = .returned (.string ⟨#[104, 116, 116, 112, 115, 58, 47, 47, 101, 120, 46, 99, 111, 109, 47, 98, 63, 113, 35, 102]⟩) ∧ Below W.heap.size W w' := by
  refine (text_walk ⟨#[104, 116, 116, 112, 115]⟩ ⟨#[]⟩ ⟨#[]⟩ ⟨#[101, 120, 46, 99, 111, 109]⟩ (-1) ⟨#[47, 98]⟩ true ⟨#[113]⟩ true ⟨#[102]⟩ W (by decide) (by decide) (by decide)).mono ?_
  rintro e w' ⟨t, rfl, ht, hb⟩
  have h2 : t = ⟨#[104, 116, 116, 112, 115, 58, 47, 47, 101, 120, 46, 99, 111, 109, 47, 98, 63, 113, 35, 102]⟩ := bs_inj (ht.out.trans aw_text)
  rw [h2]
  exact ⟨rfl, hb⟩
theorem aw_r1 (W : World) : Calls Tryz.prog 29 #[.agg #[.string ⟨#[104, 116, 116, 112, 115]⟩, .string ⟨#[]⟩, .string ⟨#[]⟩, .string ⟨#[101, 120, 46, 99, 111, 109]⟩, .int .i64 (-1), .string ⟨#[47, 98]⟩, .bool true, .string ⟨#[113]⟩, .bool true, .string ⟨#[102]⟩]] W fun e w' => e = .returned (.int .i64 443) ∧ Below W.heap.size W w' := by
  have k := port_c ⟨#[104, 116, 116, 112, 115]⟩ ⟨#[]⟩ ⟨#[]⟩ ⟨#[101, 120, 46, 99, 111, 109]⟩ (-1) ⟨#[47, 98]⟩ true ⟨#[113]⟩ true ⟨#[102]⟩ W
  exact k
set_option maxRecDepth 100000 in
set_option maxHeartbeats 2000000 in
theorem awake11 (w : World) (hT : Tabs w) : Calls Tryz.prog 21 #[] w fun e w' => e = .returned (.bool true) ∧ Below w.heap.size w w' := by
  have HT := Lib.hid hT
  clear hT
  go_enter Tryz.func21, Tryz.ntmps21
  go_wp2_with fail
  refine (aw_p1 _ HT.out).mono ?_
  rintro e w1 ⟨rfl, b1⟩
  have B1 := Lib.hid b1
  have T1 := Lib.hid (HT.out.below b1)
  clear b1 HT
  go_wp2_with fail
  obtain ⟨w2, g2, ew, eg, K2, B2, T2, -⟩ := UK.make ⟨#[104, 116, 116, 112, 115]⟩ ⟨#[]⟩ ⟨#[]⟩ ⟨#[101, 120, 46, 99, 111, 109]⟩ (-1) ⟨#[47, 98]⟩ true ⟨#[113]⟩ true ⟨#[102]⟩ B1.out T1.out
  rw [ew, eg]
  clear ew eg B1 T1
  refine (aw_p2 _ T2.out).mono ?_
  rintro e w3 ⟨rfl, b3⟩
  have B3 := Lib.hid (below_step B2.out b3)
  have T3 := Lib.hid (T2.out.below b3)
  have K3 := Lib.hid (K2.out.below b3)
  clear b3 K2 B2 T2
  go_upto_region 3 with (fail)
  obtain ⟨w4, g4, ew, eg, _, B4, T4, b4⟩ := UK.make ⟨#[]⟩ ⟨#[]⟩ ⟨#[]⟩ ⟨#[]⟩ 0 ⟨#[]⟩ false ⟨#[]⟩ false ⟨#[]⟩ B3.out T3.out
  rw [ew, eg]
  have K4 := Lib.hid (K3.out.below b4)
  clear ew eg B3 T3 b4 K3
  obtain ⟨zc0, zc1, zc2, zc3, zc4, zc5, zc6, zc7, zc8, zc9⟩ := K4.out.cells
  go_wp2_with fail
  refine (aw_t1 _).mono ?_
  rintro e w5 ⟨rfl, b5⟩
  have K5 := Lib.hid (K4.out.below b5)
  have B5 := Lib.hid (below_step B4.out b5)
  clear zc0 zc1 zc2 zc3 zc4 zc5 zc6 zc7 zc8 zc9 K4 B4 T4 b5
  obtain ⟨zc0, zc1, zc2, zc3, zc4, zc5, zc6, zc7, zc8, zc9⟩ := K5.out.cells
  go_wp2_with fail
  refine (aw_r1 _).mono ?_
  rintro e w6 ⟨rfl, b6⟩
  have B6 := Lib.hid (below_step B5.out b6)
  go_wp2_with fail
  go_ret
  exact ⟨rfl, B6.out⟩
end Go.Proofs.YtcmcopieagpppaaGreatDoor.P
namespace Go.Proofs.YtcmcopieagpppaaGreatDoor.P
open Go.RowKit Go.Proofs.YtcmcopieagpppaaGreatDoorW.PrintWords Go.Proofs.YtcmcopieagpppaaGreatDoorW.PrintLast Go.Proofs.YtcmcopieagpppaaGreatDoorW.PrintMore
set_option linter.unusedVariables false
set_option linter.unusedSimpArgs false
set_option maxRecDepth 100000 in
set_option maxHeartbeats 8000000 in
theorem ref_text_walk (s0 s1 s2 s3 : ByteArray) (p : Int) (s5 : ByteArray) (b6 : Bool) (s7 : ByteArray) (b8 : Bool) (s9 : ByteArray) (w : World) (hp0 : -1 ≤ p) (hp1 : p ≤ 65535) (hs : s0.size + s1.size + s2.size + s3.size + s5.size + s7.size + s9.size ≤ 1000000) :
    Calls Tryz.prog 28 #[urlA s0 s1 s2 s3 p s5 b6 s7 b8 s9] w fun e w' => ∃ t : ByteArray, e = .returned (.string t) ∧ Hid (bs t = Web.text (urlU s0 s1 s2 s3 p s5 b6 s7 b8 s9)) ∧ Below w.heap.size w w' := by
  unfold urlA
  have y1 : (⟨#[58, 47, 47]⟩ : ByteArray).size = 3 := rfl
  have y2 : (⟨#[58]⟩ : ByteArray).size = 1 := rfl
  have y3 : (⟨#[64]⟩ : ByteArray).size = 1 := rfl
  have y4 : (⟨#[63]⟩ : ByteArray).size = 1 := rfl
  have y5 : (⟨#[35]⟩ : ByteArray).size = 1 := rfl
  have z1 : s1.toList.isEmpty = (bs s1).isEmpty := by rw [bs_toList]
  have z2 : s2.toList.isEmpty = (bs s2).isEmpty := by rw [bs_toList]
  have e : Hid (Web.text (urlU s0 s1 s2 s3 p s5 b6 s7 b8 s9) = bs s0 ++ [58, 47, 47] ++ (if (bs s1).isEmpty ∧ (bs s2).isEmpty then [] else bs s1 ++ (if (bs s2).isEmpty then [] else 58 :: bs s2) ++ [64]) ++ bs s3 ++ (if p = -1 then [] else 58 :: Web.portText p) ++ bs s5 ++ (if b6 then 63 :: bs s7 else []) ++ (if b8 then 35 :: bs s9 else [])) := Lib.hid (by
    unfold Web.text urlU
    simp only [List.isEmpty_iff])
  have B := Lib.hid (Below.refl w.heap.size w)
  by_cases hp : p = -1
  · have hp' : (p != -1) = false := by simp [hp]
    cases h1 : (bs s1).isEmpty <;> cases h2 : (bs s2).isEmpty <;> cases b6 <;> cases b8
    all_goals
      rw [h1] at z1
      rw [h2] at z2
      have H1 := Lib.hid h1
      have H2 := Lib.hid h2
      have HP := Lib.hid hp
      clear h1 h2 hp
      go_enter Tryz.func28, Tryz.ntmps28
      go_wp2_with fail
      go_ret
      refine ⟨_, rfl, Lib.hid ?_, below_alloc B.out _⟩
      rw [e.out, H1.out, H2.out, if_pos HP.out]
      simp [bs_app, bs_lit]
  · have hp' : (p != -1) = true := by simp [hp]
    have hpt : Hid (Web.portText p = Web.decimal p.toNat) := Lib.hid (by
      obtain ⟨n, rfl⟩ := Int.eq_ofNat_of_zero_le (show 0 ≤ p by omega)
      exact portText_nat n)
    have hp2 : 0 ≤ p := by omega
    cases h1 : (bs s1).isEmpty <;> cases h2 : (bs s2).isEmpty <;> cases b6 <;> cases b8
    all_goals
      rw [h1] at z1
      rw [h2] at z2
      have H1 := Lib.hid h1
      have H2 := Lib.hid h2
      have HP := Lib.hid hp
      clear h1 h2 hp
      go_enter Tryz.func28, Tryz.ntmps28
      go_wp2_with (go_at_call 70; refine (ref_decimal_out p _ hp2 (by omega)).mono ?_; rintro e w1 ⟨d, rfl, HD, hd, hb⟩; have HB := Lib.hid (below_step (below_alloc B.out _) hb); obtain ⟨hcc, hff⟩ := bcell2 hb; clear hb)
      go_ret
      refine ⟨_, rfl, Lib.hid ?_, HB.out⟩
      rw [e.out, H1.out, H2.out, if_neg HP.out, hpt.out]
      simp [bs_app, bs_lit, HD.out, bs_ba]
end Go.Proofs.YtcmcopieagpppaaGreatDoor.P
namespace Go.Proofs.YtcmcopieagpppaaGreatDoor.P
open Go.RowKit Go.Proofs.YtcmcopieagpppaaGreatDoorW.PrintWords Go.Proofs.YtcmcopieagpppaaGreatDoorW.PrintLast Go.Proofs.YtcmcopieagpppaaGreatDoorW.PrintMore
attribute [local go_sem] max2_int min2_int max_two min_two max_three min_three max_four min_four
set_option linter.unusedVariables false
set_option linter.unusedSimpArgs false
def parapetalike_Port.f (a0 : Int) : Option (Bool) := if a0 ≥ (-1) then (some (decide (a0 ≤ 65535))) else (some false)
set_option maxHeartbeats 8000000 in
set_option maxRecDepth 100000 in
theorem parapetalike_Port.calls (a0 : Int) (r : Bool) (w : World) (h : parapetalike_Port.f a0 = some r) :
    Calls Tryz.prog 68 #[.int .i64 a0] w fun e w' => e = .returned (.bool r) ∧ Drawn0 w w' := by
  have H : (if a0 ≥ (-1) then (some (decide (a0 ≤ 65535))) else (some false)) = some r := h
  clear h
  by_cases c2 : a0 ≥ (-1)
  · rw [if_pos c2] at H
    have c2b0 : decide ((-1) ≤ a0) = true := decide_eq_true c2
    clear c2
    obtain rfl := Option.some.inj H
    go_enter Tryz.func68, Tryz.ntmps68
    go_wp2
    go_ret
    exact ⟨by first | rfl | (simp; done) | (simp [*]; done), by repeat (first | exact Drawn0.refl _ | apply Drawn0.step)⟩
  · rw [if_neg c2] at H
    have c2b0 : decide ((-1) ≤ a0) = false := decide_eq_false c2
    clear c2
    obtain rfl := Option.some.inj H
    go_enter Tryz.func68, Tryz.ntmps68
    go_wp2
    go_ret
    exact ⟨by first | rfl | (simp; done) | (simp [*]; done), by repeat (first | exact Drawn0.refl _ | apply Drawn0.step)⟩
end Go.Proofs.YtcmcopieagpppaaGreatDoor.P
namespace Go.Proofs.YtcmcopieagpppaaGreatDoor.P
open Go.RowKit Go.Proofs.YtcmcopieagpppaaGreatDoorW.PrintWords Go.Proofs.YtcmcopieagpppaaGreatDoorW.PrintLast Go.Proofs.YtcmcopieagpppaaGreatDoorW.PrintMore
attribute [local go_sem] max2_int min2_int max_two min_two max_three min_three max_four min_four
set_option linter.unusedVariables false
set_option linter.unusedSimpArgs false
def parapetalike_URL.f (a0_0 : ByteArray) (a0_1 : ByteArray) (a0_2 : ByteArray) (a0_3 : ByteArray) (a0_4 : Int) (a0_5 : ByteArray) (a0_6 : Bool) (a0_7 : ByteArray) (a0_8 : Bool) (a0_9 : ByteArray) : Option (Bool) := (parapetalike_Port.f a0_4).bind fun t444 => (if t444 = true then (some (decide ((wrap64 ((wrap64 ((wrap64 ((wrap64 ((wrap64 ((wrap64 ((a0_0.size : Int) + (a0_1.size : Int))) + (a0_2.size : Int))) + (a0_3.size : Int))) + (a0_5.size : Int))) + (a0_7.size : Int))) + (a0_9.size : Int))) ≤ 3000))) else (some false))
set_option maxHeartbeats 8000000 in
set_option maxRecDepth 100000 in
theorem parapetalike_URL.calls (a0_0 : ByteArray) (a0_1 : ByteArray) (a0_2 : ByteArray) (a0_3 : ByteArray) (a0_4 : Int) (a0_5 : ByteArray) (a0_6 : Bool) (a0_7 : ByteArray) (a0_8 : Bool) (a0_9 : ByteArray) (r : Bool) (w : World) (h : parapetalike_URL.f a0_0 a0_1 a0_2 a0_3 a0_4 a0_5 a0_6 a0_7 a0_8 a0_9 = some r) :
    Calls Tryz.prog 24 #[.agg #[.string a0_0, .string a0_1, .string a0_2, .string a0_3, .int .i64 a0_4, .string a0_5, .bool a0_6, .string a0_7, .bool a0_8, .string a0_9]] w fun e w' => e = .returned (.bool r) ∧ Below w.heap.size w w' := by
  have hu24 := Tryz.underlying24
  have HB := Aside0.mk (Below.refl w.heap.size w)
  have H : ((parapetalike_Port.f a0_4).bind fun t444 => (if t444 = true then (some (decide ((wrap64 ((wrap64 ((wrap64 ((wrap64 ((wrap64 ((wrap64 ((a0_0.size : Int) + (a0_1.size : Int))) + (a0_2.size : Int))) + (a0_3.size : Int))) + (a0_5.size : Int))) + (a0_7.size : Int))) + (a0_9.size : Int))) ≤ 3000))) else (some false))) = some r := h
  clear h
  replace H := Option.bind_eq_some_iff.mp H
  obtain ⟨t444, A20, H⟩ := H
  replace H : (if t444 = true then (some (decide ((wrap64 ((wrap64 ((wrap64 ((wrap64 ((wrap64 ((wrap64 ((a0_0.size : Int) + (a0_1.size : Int))) + (a0_2.size : Int))) + (a0_3.size : Int))) + (a0_5.size : Int))) + (a0_7.size : Int))) + (a0_9.size : Int))) ≤ 3000))) else (some false)) = some r := H
  have A2 := Aside0.mk A20
  clear A20
  by_cases c3 : t444 = true
  · subst c3
    have H1 : (some (decide ((wrap64 ((wrap64 ((wrap64 ((wrap64 ((wrap64 ((wrap64 ((a0_0.size : Int) + (a0_1.size : Int))) + (a0_2.size : Int))) + (a0_3.size : Int))) + (a0_5.size : Int))) + (a0_7.size : Int))) + (a0_9.size : Int))) ≤ 3000))) = some r := by rw [if_pos rfl] at H; exact H
    clear H
    have H := H1
    clear H1
    obtain rfl := Option.some.inj H
    go_enter Tryz.func24, Tryz.ntmps24
    go_wp2_with (first | ((with_reducible refine gate_dst (N := 1) rfl ?_); (try (refine gate_guard (by rfl) ?_; dsimp only)); refine box_event ?hg (N := 1) ?hd (cs := #[.string a0_0, .string a0_1, .string a0_2, .string a0_3, .int .i64 a0_4, .string a0_5, .bool a0_6, .string a0_7, .bool a0_8, .string a0_9]) (t := 24) ?hr ?_; (case hd => rfl); (case hg => rfl); (case hr => first | (go_simp; done) | (go_simp; rfl)); intro gb443 hg w4 hbox hb; have n0_ := Aside0.mk (below_step (by repeat (first | (with_reducible first | exact HB.out | apply below_alloc | apply pw_below_drewN | apply below_drew1) | exact HB.out)) hb); have n1_ := Aside0.mk (hbox); have n2_ := Aside0.mk ((by rw [hg]; exact (below_size (by repeat (first | (with_reducible first | exact HB.out | apply below_alloc | apply pw_below_drewN | apply below_drew1) | exact HB.out))) : w.heap.size ≤ gb443)); have n3_ := Aside0.mk ((by rw [hg]; exact (below_size (by repeat (first | (with_reducible first | exact HB.out | apply below_alloc | apply pw_below_drewN | apply below_drew1) | exact HB.out))) : w.heap.size ≤ gb443)); clear HB; have HB := n0_; have BK443 := n1_; have GW443 := n2_; have GE443 := n3_; clear n0_ n1_ n2_ n3_; clear hb hbox hg; have hcz5_0 : w4.cell? ⟨gb443, 0, none⟩ = some (.string a0_0) := (blk_cell BK443.out 0).trans rfl; have hcz5_1 : w4.cell? ⟨gb443, 1, none⟩ = some (.string a0_1) := (blk_cell BK443.out 1).trans rfl; have hcz5_2 : w4.cell? ⟨gb443, 2, none⟩ = some (.string a0_2) := (blk_cell BK443.out 2).trans rfl; have hcz5_3 : w4.cell? ⟨gb443, 3, none⟩ = some (.string a0_3) := (blk_cell BK443.out 3).trans rfl; have hcz5_4 : w4.cell? ⟨gb443, 4, none⟩ = some (.int .i64 a0_4) := (blk_cell BK443.out 4).trans rfl; have hcz5_5 : w4.cell? ⟨gb443, 5, none⟩ = some (.string a0_5) := (blk_cell BK443.out 5).trans rfl; have hcz5_6 : w4.cell? ⟨gb443, 6, none⟩ = some (.bool a0_6) := (blk_cell BK443.out 6).trans rfl; have hcz5_7 : w4.cell? ⟨gb443, 7, none⟩ = some (.string a0_7) := (blk_cell BK443.out 7).trans rfl; have hcz5_8 : w4.cell? ⟨gb443, 8, none⟩ = some (.bool a0_8) := (blk_cell BK443.out 8).trans rfl; have hcz5_9 : w4.cell? ⟨gb443, 9, none⟩ = some (.string a0_9) := (blk_cell BK443.out 9).trans rfl; have hfz5_0 := blk_frozen BK443.out 0; have hfz5_1 := blk_frozen BK443.out 1; have hfz5_2 := blk_frozen BK443.out 2; have hfz5_3 := blk_frozen BK443.out 3; have hfz5_4 := blk_frozen BK443.out 4; have hfz5_5 := blk_frozen BK443.out 5; have hfz5_6 := blk_frozen BK443.out 6; have hfz5_7 := blk_frozen BK443.out 7; have hfz5_8 := blk_frozen BK443.out 8; have hfz5_9 := blk_frozen BK443.out 9) | ((with_reducible refine gate_callee (f := 68) rfl ?_); refine goesL_ (some 5) rfl rfl Tryz.func68 (by kernel_rfl) rfl #[.int .i64 a0_4] rfl (by (try simp only [List.map_toArray, List.map_cons, List.map_nil]); first | done | rfl | (simp only [List.length_drop, List.length_take]; rfl)) ?_; (with_reducible refine (parapetalike_Port.calls a0_4 true _ A2.out).mono ?_); rintro e w' ⟨rfl, ⟨nd, rfl⟩⟩; refine ⟨_, rfl, ?_⟩))
    go_ret
    exact ⟨by first | rfl | (simp [errW_none, errW_some] <;> rfl) | (simp [*, errW_none, errW_some] <;> rfl), by repeat (first | (with_reducible first | exact HB.out | apply below_alloc | apply pw_below_drewN | apply below_drew1 | refine below_set ?_ GE443.out) | exact HB.out)⟩
  · replace c3 := Bool.eq_false_iff.mpr c3
    subst c3
    have H1 : (some false) = some r := by rw [if_neg (show ¬ (false = true) by decide)] at H; exact H
    clear H
    have H := H1
    clear H1
    obtain rfl := Option.some.inj H
    go_enter Tryz.func24, Tryz.ntmps24
    go_wp2_with (first | ((with_reducible refine gate_dst (N := 1) rfl ?_); (try (refine gate_guard (by rfl) ?_; dsimp only)); refine box_event ?hg (N := 1) ?hd (cs := #[.string a0_0, .string a0_1, .string a0_2, .string a0_3, .int .i64 a0_4, .string a0_5, .bool a0_6, .string a0_7, .bool a0_8, .string a0_9]) (t := 24) ?hr ?_; (case hd => rfl); (case hg => rfl); (case hr => first | (go_simp; done) | (go_simp; rfl)); intro gb443 hg w6 hbox hb; have n0_ := Aside0.mk (below_step (by repeat (first | (with_reducible first | exact HB.out | apply below_alloc | apply pw_below_drewN | apply below_drew1) | exact HB.out)) hb); have n1_ := Aside0.mk (hbox); have n2_ := Aside0.mk ((by rw [hg]; exact (below_size (by repeat (first | (with_reducible first | exact HB.out | apply below_alloc | apply pw_below_drewN | apply below_drew1) | exact HB.out))) : w.heap.size ≤ gb443)); have n3_ := Aside0.mk ((by rw [hg]; exact (below_size (by repeat (first | (with_reducible first | exact HB.out | apply below_alloc | apply pw_below_drewN | apply below_drew1) | exact HB.out))) : w.heap.size ≤ gb443)); clear HB; have HB := n0_; have BK443 := n1_; have GW443 := n2_; have GE443 := n3_; clear n0_ n1_ n2_ n3_; clear hb hbox hg; have hcz7_0 : w6.cell? ⟨gb443, 0, none⟩ = some (.string a0_0) := (blk_cell BK443.out 0).trans rfl; have hcz7_1 : w6.cell? ⟨gb443, 1, none⟩ = some (.string a0_1) := (blk_cell BK443.out 1).trans rfl; have hcz7_2 : w6.cell? ⟨gb443, 2, none⟩ = some (.string a0_2) := (blk_cell BK443.out 2).trans rfl; have hcz7_3 : w6.cell? ⟨gb443, 3, none⟩ = some (.string a0_3) := (blk_cell BK443.out 3).trans rfl; have hcz7_4 : w6.cell? ⟨gb443, 4, none⟩ = some (.int .i64 a0_4) := (blk_cell BK443.out 4).trans rfl; have hcz7_5 : w6.cell? ⟨gb443, 5, none⟩ = some (.string a0_5) := (blk_cell BK443.out 5).trans rfl; have hcz7_6 : w6.cell? ⟨gb443, 6, none⟩ = some (.bool a0_6) := (blk_cell BK443.out 6).trans rfl; have hcz7_7 : w6.cell? ⟨gb443, 7, none⟩ = some (.string a0_7) := (blk_cell BK443.out 7).trans rfl; have hcz7_8 : w6.cell? ⟨gb443, 8, none⟩ = some (.bool a0_8) := (blk_cell BK443.out 8).trans rfl; have hcz7_9 : w6.cell? ⟨gb443, 9, none⟩ = some (.string a0_9) := (blk_cell BK443.out 9).trans rfl; have hfz7_0 := blk_frozen BK443.out 0; have hfz7_1 := blk_frozen BK443.out 1; have hfz7_2 := blk_frozen BK443.out 2; have hfz7_3 := blk_frozen BK443.out 3; have hfz7_4 := blk_frozen BK443.out 4; have hfz7_5 := blk_frozen BK443.out 5; have hfz7_6 := blk_frozen BK443.out 6; have hfz7_7 := blk_frozen BK443.out 7; have hfz7_8 := blk_frozen BK443.out 8; have hfz7_9 := blk_frozen BK443.out 9) | ((with_reducible refine gate_callee (f := 68) rfl ?_); refine goesL_ (some 5) rfl rfl Tryz.func68 (by kernel_rfl) rfl #[.int .i64 a0_4] rfl (by (try simp only [List.map_toArray, List.map_cons, List.map_nil]); first | done | rfl | (simp only [List.length_drop, List.length_take]; rfl)) ?_; (with_reducible refine (parapetalike_Port.calls a0_4 false _ A2.out).mono ?_); rintro e w' ⟨rfl, ⟨nd, rfl⟩⟩; refine ⟨_, rfl, ?_⟩))
    go_ret
    exact ⟨by first | rfl | (simp [errW_none, errW_some] <;> rfl) | (simp [*, errW_none, errW_some] <;> rfl), by repeat (first | (with_reducible first | exact HB.out | apply below_alloc | apply pw_below_drewN | apply below_drew1 | refine below_set ?_ GE443.out) | exact HB.out)⟩
end Go.Proofs.YtcmcopieagpppaaGreatDoor.P
namespace Go.Proofs.YtcmcopieagpppaaGreatDoor.P
open Go.RowKit Go.Proofs.YtcmcopieagpppaaGreatDoorW.PrintWords Go.Proofs.YtcmcopieagpppaaGreatDoorW.PrintLast Go.Proofs.YtcmcopieagpppaaGreatDoorW.PrintMore
set_option linter.unusedVariables false
set_option linter.unusedSimpArgs false
structure SH (w : World) (g : Nat) (x0 x1 x2 x3 : ByteArray) (x4 : Int) (x5 : ByteArray) (x6 : Bool) (x7 : ByteArray) (x8 : Bool) (x9 : ByteArray) (w' : World) : Prop where mk :: (uk : UK w' g x0 x1 x2 x3 x4 x5 x6 x7 x8 x9) (b : Below w.heap.size w w') (t : Tabs w')
def SC (w : World) (g : Nat) (x0 x1 x2 x3 : ByteArray) (x4 : Int) (x5 : ByteArray) (x6 : Bool) (x7 : ByteArray) (x8 : Bool) (x9 : ByteArray) (w' : World) : Prop := w'.cell? ⟨g, 0, none⟩ = some (.string x0) ∧ w'.cell? ⟨g, 1, none⟩ = some (.string x1) ∧ w'.cell? ⟨g, 2, none⟩ = some (.string x2) ∧ w'.cell? ⟨g, 3, none⟩ = some (.string x3) ∧ w'.cell? ⟨g, 4, none⟩ = some (.int .i64 x4) ∧ w'.cell? ⟨g, 5, none⟩ = some (.string x5) ∧ w'.cell? ⟨g, 6, none⟩ = some (.bool x6) ∧ w'.cell? ⟨g, 7, none⟩ = some (.string x7) ∧ w'.cell? ⟨g, 8, none⟩ = some (.bool x8) ∧ w'.cell? ⟨g, 9, none⟩ = some (.string x9) ∧ SH w g x0 x1 x2 x3 x4 x5 x6 x7 x8 x9 w'
theorem SH.next {w w1 w2 : World} {g : Nat} {x0 x1 x2 x3 : ByteArray} {x4 : Int} {x5 : ByteArray} {x6 : Bool} {x7 : ByteArray} {x8 : Bool} {x9 : ByteArray} (h : SH w g x0 x1 x2 x3 x4 x5 x6 x7 x8 x9 w1) (hb : Below w1.heap.size w1 w2) : SC w g x0 x1 x2 x3 x4 x5 x6 x7 x8 x9 w2 := by
  have hs : SH w g x0 x1 x2 x3 x4 x5 x6 x7 x8 x9 w2 := ⟨h.uk.below hb, below_step h.b hb, h.t.below hb⟩
  obtain ⟨z0, z1, z2, z3, z4, z5, z6, z7, z8, z9⟩ := hs.uk.cells
  exact ⟨z0, z1, z2, z3, z4, z5, z6, z7, z8, z9, hs⟩
theorem SH.drew {w : World} {g : Nat} {x0 x1 x2 x3 : ByteArray} {x4 : Int} {x5 : ByteArray} {x6 : Bool} {x7 : ByteArray} {x8 : Bool} {x9 : ByteArray} {w1 : World} (h : SH w g x0 x1 x2 x3 x4 x5 x6 x7 x8 x9 w1) : SH w g x0 x1 x2 x3 x4 x5 x6 x7 x8 x9 w1.drew :=
  ⟨h.uk.below (below_drew (Below.refl _ _)), below_drew h.b, h.t.below (below_drew (Below.refl _ _))⟩
theorem alike_url_c (x0 x1 x2 x3 : ByteArray) (x4 : Int) (x5 : ByteArray) (x6 : Bool) (x7 : ByteArray) (x8 : Bool) (x9 : ByteArray) (w : World) (hs : x0.size ≤ 140737488355328 ∧ x1.size ≤ 140737488355328 ∧ x2.size ≤ 140737488355328 ∧ x3.size ≤ 140737488355328 ∧ x5.size ≤ 140737488355328 ∧ x7.size ≤ 140737488355328 ∧ x9.size ≤ 140737488355328) :
    Calls Tryz.prog 24 #[.agg #[.string x0, .string x1, .string x2, .string x3, .int .i64 x4, .string x5, .bool x6, .string x7, .bool x8, .string x9]] w fun e w' => e = .returned (.bool (decide (-1 ≤ x4 ∧ x4 ≤ 65535 ∧ x0.size + x1.size + x2.size + x3.size + x5.size + x7.size + x9.size ≤ 3000))) ∧ Below w.heap.size w w' := by
  refine (parapetalike_URL.calls x0 x1 x2 x3 x4 x5 x6 x7 x8 x9 _ w ?_).mono fun e w' h => h
  unfold parapetalike_URL.f parapetalike_Port.f
  obtain ⟨h0, h1, h2, h3, h5, h7, h9⟩ := hs
  have e : (wrap64 ((wrap64 ((wrap64 ((wrap64 ((wrap64 ((wrap64 ((x0.size : Int) + (x1.size : Int))) + (x2.size : Int))) + (x3.size : Int))) + (x5.size : Int))) + (x7.size : Int))) + (x9.size : Int))) = ((x0.size + x1.size + x2.size + x3.size + x5.size + x7.size + x9.size : Nat) : Int) := by
    rw [← Int.natCast_add, small64 _ (by omega), ← Int.natCast_add, small64 _ (by omega), ← Int.natCast_add, small64 _ (by omega), ← Int.natCast_add, small64 _ (by omega), ← Int.natCast_add, small64 _ (by omega), ← Int.natCast_add, small64 _ (by omega)]
  rw [e]
  by_cases a : x4 ≥ -1
  · rw [if_pos a]
    by_cases b : x4 ≤ 65535
    · simp [a, b]
      omega
    · simp [b]
  · rw [if_neg a]
    simp
    omega
set_option maxRecDepth 100000 in
set_option maxHeartbeats 4000000 in
theorem urlTexts_walk (x0 x1 x2 x3 : ByteArray) (x4 : Int) (x5 : ByteArray) (x6 : Bool) (x7 : ByteArray) (x8 : Bool) (x9 : ByteArray) (w : World) (hT : Tabs w) (hs : x0.size ≤ 140737488355328 ∧ x1.size ≤ 140737488355328 ∧ x2.size ≤ 140737488355328 ∧ x3.size ≤ 140737488355328 ∧ x5.size ≤ 140737488355328 ∧ x7.size ≤ 140737488355328 ∧ x9.size ≤ 140737488355328) :
    Calls Tryz.prog 5 #[.agg #[.string x0, .string x1, .string x2, .string x3, .int .i64 x4, .string x5, .bool x6, .string x7, .bool x8, .string x9]] w fun e w' => e = .returned (.bool true) ∧ Below w.heap.size w w' := by
  have HT := Lib.hid hT
  have AL := Lib.hid (fun W => alike_url_c x0 x1 x2 x3 x4 x5 x6 x7 x8 x9 W hs)
  have B0 := Lib.hid (Below.refl w.heap.size w)
  clear hT hs
  by_cases c1 : -1 ≤ x4 ∧ x4 ≤ 65535 ∧ x0.size + x1.size + x2.size + x3.size + x5.size + x7.size + x9.size ≤ 3000
  · rw [decide_eq_true c1] at AL
    obtain ⟨f1, f2, f3⟩ := c1
    obtain ⟨T, hTT⟩ : ∃ T : ByteArray, bs T = Web.text (urlU x0 x1 x2 x3 x4 x5 x6 x7 x8 x9) := ⟨ba _, rfl⟩
    have C27 : Hid (∀ W, SH w w.heap.size x0 x1 x2 x3 x4 x5 x6 x7 x8 x9 W → Calls Tryz.prog 27 #[.agg #[.string x0, .string x1, .string x2, .string x3, .int .i64 x4, .string x5, .bool x6, .string x7, .bool x8, .string x9]] W fun e w' => e = .returned (.string T) ∧ SC w w.heap.size x0 x1 x2 x3 x4 x5 x6 x7 x8 x9 w') := Lib.hid (fun W h => (text_walk x0 x1 x2 x3 x4 x5 x6 x7 x8 x9 W f1 (by omega) (by omega)).mono (by
      rintro e w' ⟨t, rfl, ht, hb⟩
      rw [bs_inj (ht.out.trans hTT.symm)]
      exact ⟨rfl, h.next hb⟩))
    have C28 : Hid (∀ W, SH w w.heap.size x0 x1 x2 x3 x4 x5 x6 x7 x8 x9 W → Calls Tryz.prog 28 #[.agg #[.string x0, .string x1, .string x2, .string x3, .int .i64 x4, .string x5, .bool x6, .string x7, .bool x8, .string x9]] W fun e w' => e = .returned (.string T) ∧ SC w w.heap.size x0 x1 x2 x3 x4 x5 x6 x7 x8 x9 w') := Lib.hid (fun W h => (ref_text_walk x0 x1 x2 x3 x4 x5 x6 x7 x8 x9 W f1 (by omega) (by omega)).mono (by
      rintro e w' ⟨t, rfl, ht, hb⟩
      rw [bs_inj (ht.out.trans hTT.symm)]
      exact ⟨rfl, h.next hb⟩))
    obtain ⟨pp, hpp⟩ : ∃ p : Int, (if x4 = -1 then (portP (bs x0)).1 else x4) = p := ⟨_, rfl⟩
    have C29 : Hid (∀ W, SH w w.heap.size x0 x1 x2 x3 x4 x5 x6 x7 x8 x9 W → Calls Tryz.prog 29 #[.agg #[.string x0, .string x1, .string x2, .string x3, .int .i64 x4, .string x5, .bool x6, .string x7, .bool x8, .string x9]] W fun e w' => e = .returned (.int .i64 pp) ∧ SC w w.heap.size x0 x1 x2 x3 x4 x5 x6 x7 x8 x9 w') := Lib.hid (fun W h => (port_c x0 x1 x2 x3 x4 x5 x6 x7 x8 x9 W).mono (by
      rintro e w' ⟨rfl, hb⟩
      rw [hpp]
      exact ⟨rfl, h.next hb⟩))
    have C30 : Hid (∀ W, SH w w.heap.size x0 x1 x2 x3 x4 x5 x6 x7 x8 x9 W → Calls Tryz.prog 30 #[.agg #[.string x0, .string x1, .string x2, .string x3, .int .i64 x4, .string x5, .bool x6, .string x7, .bool x8, .string x9]] W fun e w' => e = .returned (.int .i64 pp) ∧ SC w w.heap.size x0 x1 x2 x3 x4 x5 x6 x7 x8 x9 w') := Lib.hid (fun W h => (ref_port_c x0 x1 x2 x3 x4 x5 x6 x7 x8 x9 W).mono (by
      rintro e w' ⟨rfl, hb⟩
      rw [hpp]
      exact ⟨rfl, h.next hb⟩))
    have C21 : Hid (∀ W, SH w w.heap.size x0 x1 x2 x3 x4 x5 x6 x7 x8 x9 W → Calls Tryz.prog 21 #[] W fun e w' => e = .returned (.bool true) ∧ SC w w.heap.size x0 x1 x2 x3 x4 x5 x6 x7 x8 x9 w') := Lib.hid (fun W h => (awake11 W h.t).mono (by
      rintro e w' ⟨rfl, hb⟩
      exact ⟨rfl, h.next hb⟩))
    have D25 := Lib.hid (fun W => url_default_c x0 W)
    have D26 := Lib.hid (fun W => ref_default_c x0 W)
    obtain ⟨d1, hd1⟩ : ∃ x, (portP (bs x0)).1 = x := ⟨_, rfl⟩
    obtain ⟨d2, hd2⟩ : ∃ x, (portP (bs x0)).2 = x := ⟨_, rfl⟩
    rw [hd1, hd2] at D25 D26
    have hpe : (pp == pp) = true := by simp
    have hd1e : (d1 == d1) = true := by simp
    have hd2e : (d2 == d2) = true := by simp
    clear f1 f2 f3 hTT hpp hd1 hd2
    have SH0 := Lib.hid (show SH w w.heap.size x0 x1 x2 x3 x4 x5 x6 x7 x8 x9 (w.alloc (.cells #[.string x0, .string x1, .string x2, .string x3, .int .i64 x4, .string x5, .bool x6, .string x7, .bool x8, .string x9] 24 (0, 0))) from ⟨heap_alloc_new w _, below_alloc (Below.refl _ _) _, HT.out.below (below_alloc (Below.refl _ _) _)⟩)
    have hgw : w.heap.size < (w.alloc (.cells #[.string x0, .string x1, .string x2, .string x3, .int .i64 x4, .string x5, .bool x6, .string x7, .bool x8, .string x9] 24 (0, 0))).heap.size := by simp
    go_enter Tryz.func5, Tryz.ntmps5
    go_wp2_with (go_at_call 24; refine (AL.out _).mono ?_; rintro e w2 ⟨rfl, hb⟩; obtain ⟨z0a, z1a, z2a, z3a, z4a, z5a, z6a, z7a, z8a, z9a, H2⟩ := SH0.out.next hb; clear hb)
    refine (D25.out _).mono ?_
    rintro e w3 ⟨rfl, hd⟩
    obtain ⟨z0b, z1b, z2b, z3b, z4b, z5b, z6b, z7b, z8b, z9b, H3⟩ := H2.next hd.below
    clear hd H2 z0a z1a z2a z3a z4a z5a z6a z7a z8a z9a
    go_wp2_with fail
    refine (D26.out _).mono ?_
    rintro e w4 ⟨rfl, hd⟩
    obtain ⟨z0c, z1c, z2c, z3c, z4c, z5c, z6c, z7c, z8c, z9c, H4⟩ := H3.next hd
    clear hd H3 z0b z1b z2b z3b z4b z5b z6b z7b z8b z9b
    go_wp2_with fail
    generalize hG : w.heap.size = G at *
    go_region_held3 (fun w' : World => w'.cell? ⟨G, 0, none⟩ = some (.string x0) ∧ w'.cell? ⟨G, 1, none⟩ = some (.string x1) ∧ w'.cell? ⟨G, 2, none⟩ = some (.string x2) ∧ w'.cell? ⟨G, 3, none⟩ = some (.string x3) ∧ w'.cell? ⟨G, 4, none⟩ = some (.int .i64 x4) ∧ w'.cell? ⟨G, 5, none⟩ = some (.string x5) ∧ w'.cell? ⟨G, 6, none⟩ = some (.bool x6) ∧ w'.cell? ⟨G, 7, none⟩ = some (.string x7) ∧ w'.cell? ⟨G, 8, none⟩ = some (.bool x8) ∧ w'.cell? ⟨G, 9, none⟩ = some (.string x9) ∧ SH w G x0 x1 x2 x3 x4 x5 x6 x7 x8 x9 w') (first | (refine ⟨?_, ?_, ?_, ?_, ?_, ?_, ?_, ?_, ?_, ?_, ?_⟩ <;> first | assumption | exact SH.drew (by assumption) | (simp only [World.cell?_drew]; assumption)) | go_keep) (first | (go_at_call 27; refine (C27.out _ (by first | assumption | exact SH.drew (by assumption))).mono ?_; rintro e w' ⟨rfl, hz0, hz1, hz2, hz3, hz4, hz5, hz6, hz7, hz8, hz9, hS⟩) | (go_at_call 28; refine (C28.out _ (by first | assumption | exact SH.drew (by assumption))).mono ?_; rintro e w' ⟨rfl, hz0, hz1, hz2, hz3, hz4, hz5, hz6, hz7, hz8, hz9, hS⟩) | (go_at_call 29; refine (C29.out _ (by first | assumption | exact SH.drew (by assumption))).mono ?_; rintro e w' ⟨rfl, hz0, hz1, hz2, hz3, hz4, hz5, hz6, hz7, hz8, hz9, hS⟩) | (go_at_call 30; refine (C30.out _ (by first | assumption | exact SH.drew (by assumption))).mono ?_; rintro e w' ⟨rfl, hz0, hz1, hz2, hz3, hz4, hz5, hz6, hz7, hz8, hz9, hS⟩) | (go_at_call 21; refine (C21.out _ (by first | assumption | exact SH.drew (by assumption))).mono ?_; rintro e w' ⟨rfl, hz0, hz1, hz2, hz3, hz4, hz5, hz6, hz7, hz8, hz9, hS⟩))
    go_simp
    go_wp2_with fail
    go_ret
    exact ⟨rfl, hS.b⟩
  · rw [decide_eq_false c1] at AL
    clear c1
    go_enter Tryz.func5, Tryz.ntmps5
    go_wp2_with (first | (go_at_call 24; refine (AL.out _).mono ?_; rintro e w2 ⟨rfl, hb⟩; have B2 := Lib.hid (below_step (below_alloc B0.out _) hb); clear hb) | (go_at_call 21; refine (awake11 _ (HT.out.below B2.out)).mono ?_; rintro e w3 ⟨rfl, hb⟩; have B3 := Lib.hid (below_step B2.out hb); clear hb))
    go_ret
    exact ⟨rfl, B3.out⟩
end Go.Proofs.YtcmcopieagpppaaGreatDoor.P
namespace Go.Proofs.YtcmcopieagpppaaGreatDoor.Wit
open Go.ChangeShapes Go.WideShapes Go.ChangeAt Go.RowKit Go.Lib
set_option linter.unusedVariables false
theorem own : ownKnob Tryz.prog.godebug = none := by kernel_rfl
abbrev laid : List (String × DataW Unit) := [("unicode/utf8.acceptRanges", Rows.laid_unicode_utf8_acceptRanges), ("unicode/utf8.first", Rows.laid_unicode_utf8_first)]
theorem accept_same : (Rows.laid_unicode_utf8_acceptRanges : DataW Unit) = Lib.acceptData := by kernel_rfl
theorem first_same : (Rows.laid_unicode_utf8_first : DataW Unit) = Lib.firstData := by kernel_rfl
theorem tabs {W : World} (hL : laidMetH Tryz.prog laid W) (hsh : W.ShapedOpen Tryz.prog) : P.Tabs W := by
  have hL' : laidMet Tryz.prog laid W := hL
  have r1 := Lib.laidMet.reads hL' (.head _)
  have r2 := Lib.laidMet.reads hL' (.tail _ (.head _))
  rw [accept_same] at r1
  rw [first_same] at r2
  obtain ⟨m, hm⟩ : ∃ m, W.cell? ⟨2, 0, none⟩ = some (.int .i64 m) := Tryz.laysM219.s1_3 W hsh
  exact ⟨utf8Tabs_of_readsT (U8Types.of196 Tryz.lays196) ⟨by kernel_rfl, by kernel_rfl, by kernel_rfl, by kernel_rfl, by kernel_rfl, by kernel_rfl, by kernel_rfl⟩ r2 r1, ⟨m, hm⟩, World.block_lt_of_cell? W _ hm⟩
noncomputable def laidWorld (os : Os) : World :=
  let w0 := World.holding Tryz.prog os ⟨#[], #[], []⟩
  let put (h : Array Obj) (g : Nat) (cs : Array Value) : Array Obj := h.modify g fun
    | .cells _ t frozen => .cells cs t frozen
    | o => o
  let h1 := put w0.heap 0 (Lib.firstTab.map fun z => Value.int .u8 z).toArray
  let h2 := put h1 1 ((List.range 16).flatMap fun i => [Value.int .u8 (Lib.accLo i), Value.int .u8 (Lib.accHi i)]).toArray
  { w0 with heap := h2 }
theorem laid_met (os : Os) (args : Array Value) : laidMet Tryz.prog laid ((laidWorld os).forCall (fun _ _ => 0) ⟨#[], args, []⟩).memory :=
  (LaidIn.of_run (l := laid) [1, 0] 8 (by kernel_rfl) (by kernel_rfl) (by kernel_rfl) (by kernel_rfl)).met
end Go.Proofs.YtcmcopieagpppaaGreatDoor.Wit
namespace Go.Proofs.YtcmcopieagpppaaGreatDoor.P
open Go.Joins Go.ChangeShapes Go.WideShapes Go.RowKit Go.Deep
set_option linter.unusedVariables false
theorem open_agg10 {H : Type} {enc : TypeId × Value → H} {P : Program} {w : World} {base : Nat} {spare : Nat → Bool} {held : Bool} {r : Reach} {b0 : Nat} {t : TypeId} {f0 f1 f2 f3 f4 f5 f6 f7 f8 f9 : Field} {v : Value} {d : DataW H} {p : List MemPlace} (hs : P.underlying t = some (.struct #[f0, f1, f2, f3, f4, f5, f6, f7, f8, f9])) (hone : oneCellFields P #[f0, f1, f2, f3, f4, f5, f6, f7, f8, f9] = true) (hC : P.cellsOf t = 10)
    (hv : Value.okWide P w r b0 t v) (h : DataW.Trod enc P w base spare held t v d p) :
    ∃ (v0 v1 v2 v3 v4 v5 v6 v7 v8 v9 : Value) (y0 y1 y2 y3 y4 y5 y6 y7 y8 y9 : DataW H × List MemPlace) (n : Nat), v = .agg #[v0, v1, v2, v3, v4, v5, v6, v7, v8, v9] ∧ d = .agg [y0.1, y1.1, y2.1, y3.1, y4.1, y5.1, y6.1, y7.1, y8.1, y9.1] ∧
      DataW.trod enc P w base spare held n f0.type [v0] = some y0 ∧ DataW.trod enc P w base spare held n f1.type [v1] = some y1 ∧ DataW.trod enc P w base spare held n f2.type [v2] = some y2 ∧ DataW.trod enc P w base spare held n f3.type [v3] = some y3 ∧ DataW.trod enc P w base spare held n f4.type [v4] = some y4 ∧ DataW.trod enc P w base spare held n f5.type [v5] = some y5 ∧ DataW.trod enc P w base spare held n f6.type [v6] = some y6 ∧ DataW.trod enc P w base spare held n f7.type [v7] = some y7 ∧ DataW.trod enc P w base spare held n f8.type [v8] = some y8 ∧ DataW.trod enc P w base spare held n f9.type [v9] = some y9 := by
  obtain ⟨cs, rfl, hsz⟩ := okWide_struct hs hv
  obtain ⟨l⟩ := cs
  match l, hsz.trans hC with
  | [c0, c1, c2, c3, c4, c5, c6, c7, c8, c9], _ =>
    obtain ⟨fuel, hf⟩ := h
    obtain ⟨xs, n, _, hx, _, hlen, hg⟩ := DataW.trod_struct hs hf
    obtain ⟨o0, k0⟩ := hone_of hone 0 f0 rfl
    obtain ⟨o1, k1⟩ := hone_of hone 1 f1 rfl
    obtain ⟨o2, k2⟩ := hone_of hone 2 f2 rfl
    obtain ⟨o3, k3⟩ := hone_of hone 3 f3 rfl
    obtain ⟨o4, k4⟩ := hone_of hone 4 f4 rfl
    obtain ⟨o5, k5⟩ := hone_of hone 5 f5 rfl
    obtain ⟨o6, k6⟩ := hone_of hone 6 f6 rfl
    obtain ⟨o7, k7⟩ := hone_of hone 7 f7 rfl
    obtain ⟨o8, k8⟩ := hone_of hone 8 f8 rfl
    obtain ⟨o9, k9⟩ := hone_of hone 9 f9 rfl
    match xs, hlen with
    | [y0, y1, y2, y3, y4, y5, y6, y7, y8, y9], _ =>
      simp only [Prod.mk.injEq] at hx
      exact ⟨c0, c1, c2, c3, c4, c5, c6, c7, c8, c9, y0, y1, y2, y3, y4, y5, y6, y7, y8, y9, n, rfl, by simpa using hx.1, by simpa [Value.cells, o0, k0] using hg 0 f0 rfl, by simpa [Value.cells, o1, k1] using hg 1 f1 rfl, by simpa [Value.cells, o2, k2] using hg 2 f2 rfl, by simpa [Value.cells, o3, k3] using hg 3 f3 rfl, by simpa [Value.cells, o4, k4] using hg 4 f4 rfl, by simpa [Value.cells, o5, k5] using hg 5 f5 rfl, by simpa [Value.cells, o6, k6] using hg 6 f6 rfl, by simpa [Value.cells, o7, k7] using hg 7 f7 rfl, by simpa [Value.cells, o8, k8] using hg 8 f8 rfl, by simpa [Value.cells, o9, k9] using hg 9 f9 rfl⟩
end Go.Proofs.YtcmcopieagpppaaGreatDoor.P
