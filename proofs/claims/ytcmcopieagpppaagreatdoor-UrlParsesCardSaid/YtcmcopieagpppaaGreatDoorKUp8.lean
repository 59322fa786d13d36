/- A part of the proof of the statement Up: what is proved here of the program serves its last text; its conditions stand in the theorems. -/
import Derived.Test.YtcmcopieagpppaaGreatDoorKUp1
import Derived.Test.YtcmcopieagpppaaGreatDoorKUp7
import Derived.Deep.DeepHandedRow
import Derived.Deep.DeepWitnessRowRef
import Derived.Lib.LaidIn
import Derived.Lib.LaidU8T
import Derived.OpenShut
import Derived.ProofKit
import Derived.ShutString
import Derived.SizedLaws
import Derived.Test.YtcmcopieagpppaaGreatDoorCards
import Derived.Test.YtcmcopieagpppaaGreatDoorTie
import Derived.WalkKit
namespace Go.Proofs.YtcmcopieagpppaaGreatDoor.Wit
open Go.ChangeShapes Go.WideShapes Go.ChangeAt Go.RowKit Go.Lib
set_option linter.unusedVariables false
theorem own : ownKnob Tryz.prog.godebug = none := by kernel_rfl
abbrev laid : List (String × DataW Unit) := [("unicode/utf8.acceptRanges", Rows.laid_unicode_utf8_acceptRanges), ("unicode/utf8.first", Rows.laid_unicode_utf8_first)]
theorem accept_same : (Rows.laid_unicode_utf8_acceptRanges : DataW Unit) = Lib.acceptData := by kernel_rfl
theorem first_same : (Rows.laid_unicode_utf8_first : DataW Unit) = Lib.firstData := by kernel_rfl
theorem tabs {W : World} (hL : laidMetH Tryz.prog laid W) (hsh : W.ShapedOpen Tryz.prog) : P.Tabs W := by
  have hL' : laidMet Tryz.prog laid W := hL
  have r1 := Lib.laidMet.reads hL' (.head _)
  have r2 := Lib.laidMet.reads hL' (.tail _ (.head _))
  rw [accept_same] at r1
  rw [first_same] at r2
  obtain ⟨m, hm⟩ : ∃ m, W.cell? ⟨2, 0, none⟩ = some (.int .i64 m) := Tryz.laysM219.s1_3 W hsh
  exact ⟨utf8Tabs_of_readsT (U8Types.of196 Tryz.lays196) ⟨by kernel_rfl, by kernel_rfl, by kernel_rfl, by kernel_rfl, by kernel_rfl, by kernel_rfl, by kernel_rfl⟩ r2 r1, ⟨m, hm⟩, World.block_lt_of_cell? W _ hm⟩
noncomputable def laidWorld (os : Os) : World :=
  let w0 := World.holding Tryz.prog os ⟨#[], #[], []⟩
  let put (h : Array Obj) (g : Nat) (cs : Array Value) : Array Obj := h.modify g fun
    | .cells _ t frozen => .cells cs t frozen
    | o => o
  let h1 := put w0.heap 0 (Lib.firstTab.map fun z => Value.int .u8 z).toArray
  let h2 := put h1 1 ((List.range 16).flatMap fun i => [Value.int .u8 (Lib.accLo i), Value.int .u8 (Lib.accHi i)]).toArray
  { w0 with heap := h2 }
theorem laid_met (os : Os) (args : Array Value) : laidMet Tryz.prog laid ((laidWorld os).forCall (fun _ _ => 0) ⟨#[], args, []⟩).memory :=
  (LaidIn.of_run (l := laid) [1, 0] 8 (by kernel_rfl) (by kernel_rfl) (by kernel_rfl) (by kernel_rfl)).met
end Go.Proofs.YtcmcopieagpppaaGreatDoor.Wit
namespace Go.Proofs.YtcmcopieagpppaaGreatDoor.P
set_option linter.unusedVariables false
set_option linter.unusedSimpArgs false
theorem brk_fst_len (q : UInt8 → Bool) (l : List UInt8) : (Web.brk q l).1.length ≤ l.length := by have := brk_len q l; omega
theorem brk_snd_len (q : UInt8 → Bool) (l : List UInt8) : (Web.brk q l).2.length ≤ l.length := by have := brk_len q l; omega
theorem portText_nat (n : Nat) : Web.portText (n : Int) = Web.decimal n := by
  unfold Web.portText
  rw [if_neg (by omega)]
  rfl
end Go.Proofs.YtcmcopieagpppaaGreatDoor.P
namespace Go.Proofs.YtcmcopieagpppaaGreatDoor.P
open Go.RowKit Go.Proofs.YtcmcopieagpppaaGreatDoorW.PrintWords Go.Proofs.YtcmcopieagpppaaGreatDoorW.PrintLast Go.Proofs.YtcmcopieagpppaaGreatDoorW.PrintMore
set_option linter.unusedVariables false
set_option linter.unusedSimpArgs false
theorem TabsTo {w w1 : World} {g : Nat} (h : Tabs w) (hb : Below g w w1) (hg : 3 ≤ g) : Tabs w1 := by
  obtain ⟨h1, ⟨m, h2⟩, h3⟩ := h
  refine ⟨?_, ⟨m, (hb.cell (p := ⟨2, 0, none⟩) (by show 2 < g; omega)).trans h2⟩, Nat.le_trans h3 hb.size⟩
  exact ⟨fun c hc => (hb.cell (p := ⟨0, c, none⟩) (by show 0 < g; omega)).trans (h1.1 c hc), fun i hi => ⟨(hb.cell (p := ⟨1, 2 * i, none⟩) (by show 1 < g; omega)).trans (h1.2 i hi).1, (hb.cell (p := ⟨1, 2 * i + 1, none⟩) (by show 1 < g; omega)).trans (h1.2 i hi).2⟩⟩
theorem q_yes {R r : List UInt8} {c : UInt8} (h : R = c :: r) (hc : (c == 63) = true) : Web.brk (· == 35) R = (63 :: (Web.brk (· == 35) r).1, (Web.brk (· == 35) r).2) := by
  have e : c = 63 := by simpa using hc
  subst e
  rw [h, brk_cons, if_neg (by decide)]
theorem q_no {R1 R : List UInt8} (hR : R = (Web.brk qf R1).2) (h : ∀ c r, R = c :: r → (c == 63) = false) : Web.brk (· == 35) R = ([], R) := by
  cases R with
  | nil => rfl
  | cons c t =>
    have h1 := h c t rfl
    have h2 := brk_snd_head qf R1 c t hR.symm
    unfold qf at h2
    rw [h1, Bool.false_or] at h2
    rw [brk_cons, if_pos h2]
theorem f_no {R F : List UInt8} (hF : F = (Web.brk (· == 35) R).2) (h : ∀ c r, F = c :: r → (c == 35) = false) : F = [] := by
  cases F with
  | nil => rfl
  | cons c t =>
    have h1 := h c t rfl
    have h2 := brk_snd_head (· == 35) R c t hF.symm
    rw [h1] at h2
    cases h2
theorem slash_stop {R S : List UInt8} (hR : R.dropWhile Web.slash = S) (h : ∀ c r, R = c :: r → Web.slash c = false) : S = R := by
  cases R with
  | nil => exact hR.symm
  | cons c t => rw [← hR, List.dropWhile_cons_of_neg (by rw [h c t rfl]; decide)]
def vStr : Option Value → Nat
  | some (.string x) => x.size
  | _ => 0
set_option maxRecDepth 100000 in
set_option maxHeartbeats 4000000 in
theorem url_parse_walk (s : ByteArray) (w : World) (hT : Tabs w) :
    Calls Tryz.prog 22 #[.string s] w fun e w' => e = .returned (urlR (Web.parse (bs s))) ∧ Below w.heap.size w w' := by
  have HT := Lib.hid hT
  clear hT
  by_cases c1 : 65536 < s.size
  · have c1' : decide (65536 < (s.size : Int)) = true := decide_eq_true (by omega)
    go_enter Tryz.func22, Tryz.ntmps22
    go_wp2_with (first | ((with_reducible refine gate_dst (N := 2) rfl ?_); refine box_event ?hg (N := 2) ?hd (cs := #[.string ⟨#[]⟩, .string ⟨#[]⟩, .string ⟨#[]⟩, .string ⟨#[]⟩, .int .i64 0, .string ⟨#[]⟩, .bool false, .string ⟨#[]⟩, .bool false, .string ⟨#[]⟩]) (t := 24) ?hr ?_; (case hd => rfl); (case hg => rfl); (case hr => first | (go_simp; done) | (go_simp; rfl)); intro g0 hg0 w0 hbox hb0; have Z0 := Lib.hid (FB.new w w0 g0 hbox); have B0 := Lib.hid hb0; have G0 := Lib.hid (show w.heap.size ≤ g0 by omega); clear hbox hb0 hg0; obtain ⟨zc0, zc1, zc2, zc3, zc4, zc5, zc6, zc7, zc8, zc9⟩ := Z0.out.cells; obtain ⟨zf0, zf1, zf2, zf3, zf4, zf5, zf6, zf7, zf8, zf9⟩ := Z0.out.frozens))
    refine bodyPost_ret (results_ct rfl _ _ g0 24 _ (0, 0) _ rfl (Z0.out.put uZ) Tryz.underlying24 rfl (by kernel_rfl)) rfl ⟨?_, put10 B0.out G0.out⟩
    unfold Web.parse
    rw [if_pos (by rw [bs_len]; exact c1)]
    rfl
  · have c1' : decide (65536 < (s.size : Int)) = false := decide_eq_false (by omega)
    have p1 : Web.parse (bs s) = Web.url (bs s) := by
      unfold Web.parse
      rw [if_neg (by rw [bs_len]; exact c1)]
    rw [p1]
    go_enter Tryz.func22, Tryz.ntmps22
    go_wp2_with (first | ((with_reducible refine gate_dst (N := 2) rfl ?_); refine box_event ?hg (N := 2) ?hd (cs := #[.string ⟨#[]⟩, .string ⟨#[]⟩, .string ⟨#[]⟩, .string ⟨#[]⟩, .int .i64 0, .string ⟨#[]⟩, .bool false, .string ⟨#[]⟩, .bool false, .string ⟨#[]⟩]) (t := 24) ?hr ?_; (case hd => rfl); (case hg => rfl); (case hr => first | (go_simp; done) | (go_simp; rfl)); intro g0 hg0 w0 hbox hb0; have Z0 := Lib.hid (FB.new w w0 g0 hbox); have B0 := Lib.hid hb0; have G0 := Lib.hid (show w.heap.size ≤ g0 by omega); clear hbox hb0 hg0; obtain ⟨zc0, zc1, zc2, zc3, zc4, zc5, zc6, zc7, zc8, zc9⟩ := Z0.out.cells; obtain ⟨zf0, zf1, zf2, zf3, zf4, zf5, zf6, zf7, zf8, zf9⟩ := Z0.out.frozens))
    clear zc0 zc1 zc2 zc3 zc4 zc5 zc6 zc7 zc8 zc9 zf0 zf1 zf2 zf3 zf4 zf5 zf6 zf7 zf8 zf9 p1
    refine (pct_utf8_c s _ (by omega) (HT.out.below B0.out).1).mono ?_
    rintro e w1 ⟨rfl, b1⟩
    have Z1 := Lib.hid (Z0.out.below b1)
    have B1 := Lib.hid (below_step B0.out b1)
    have T1 := Lib.hid (HT.out.below B1.out)
    clear Z0 B0 b1 HT
    by_cases c2 : Lib.validD (bs s) = true
    · rw [c2]
      go_wp2_with fail
      refine (trimfunc_c s _ (by omega) T1.out.1).mono ?_
      rintro e w2 ⟨s1, rfl, H1, b2⟩
      have Z2 := Lib.hid (Z1.out.below b2)
      have B2 := Lib.hid (below_step B1.out b2)
      have T2 := Lib.hid (T1.out.below b2)
      have hs1 : s1.size ≤ s.size := by rw [← bs_len, H1.out, ← bs_len s]; exact trim_len _
      clear Z1 B1 T1 b2
      go_wp2_with fail
      have hC := six_cells_new w2 _ rfl
      have b3 := (Below.refl w2.heap.size w2).alloc (Nat.le_refl _) (.cells #[.string ⟨#[9]⟩, .string ⟨#[]⟩, .string ⟨#[10]⟩, .string ⟨#[]⟩, .string ⟨#[13]⟩, .string ⟨#[]⟩] 9 (0, 0))
      have hlt3 : w2.heap.size < (w2.alloc (.cells #[.string ⟨#[9]⟩, .string ⟨#[]⟩, .string ⟨#[10]⟩, .string ⟨#[]⟩, .string ⟨#[13]⟩, .string ⟨#[]⟩] 9 (0, 0))).heap.size := by simp
      generalize w2.alloc (.cells #[.string ⟨#[9]⟩, .string ⟨#[]⟩, .string ⟨#[10]⟩, .string ⟨#[]⟩, .string ⟨#[13]⟩, .string ⟨#[]⟩] 9 (0, 0)) = w3 at hC b3 hlt3 ⊢
      have Z3 := Lib.hid (Z2.out.below b3)
      have B3 := Lib.hid (below_step B2.out b3)
      have T3 := Lib.hid (T2.out.below b3)
      clear Z2 B2 T2 b3
      refine (newReplacer_walk w2.heap.size w3 hlt3 hC).mono ?_
      rintro e w4 ⟨g4, rfl, hg4, HN, b4⟩
      have Z4 := Lib.hid (Z3.out.below b4)
      have B4 := Lib.hid (below_step B3.out b4)
      have T4 := Lib.hid (T3.out.below b4)
      have hwg : w.heap.size ≤ g4 := Nat.le_trans B3.out.size hg4
      have hz4 : g0 < g4 := Nat.lt_of_lt_of_le Z3.out.lt hg4
      have hT34 : 3 ≤ g4 := Nat.le_trans T3.out.2.2 hg4
      clear Z3 B3 T3 b4 hlt3 hC
      go_wp2_with fail
      refine (replace_walk g4 s1 _ w3.heap.size HN.out (by omega)).mono ?_
      rintro e w5 ⟨r2, rfl, H5, b5⟩
      have Z5 := Lib.hid (show FB w5 g0 uZ from (b5.block g0 hz4).trans Z4.out)
      have B5 := Lib.hid (below_weaken B4.out hwg b5)
      have e5 : bs r2 = Web.clean (bs s) := by rw [H5.out, H1.out]; rfl
      have E5 := Lib.hid e5
      have hs2 : r2.size ≤ s.size := by rw [← bs_len, e5, ← bs_len s]; exact clean_len _
      have T5 := Lib.hid (TabsTo T4.out b5 hT34)
      clear Z4 B4 T4 b5 H5 H1 HN e5 hg4 hwg hz4 hT34
      go_wp2_with fail
      have hbx := heap_alloc_new w5 (.cells #[.string r2, .string ⟨#[]⟩, .string ⟨#[]⟩, .string ⟨#[]⟩, .string ⟨#[]⟩, .int .i64 0, .string ⟨#[]⟩, .bool false, .string ⟨#[]⟩, .bool false, .string ⟨#[]⟩] 76 (0, 0))
      have R6 : RB (w5.alloc (.cells #[.string r2, .string ⟨#[]⟩, .string ⟨#[]⟩, .string ⟨#[]⟩, .string ⟨#[]⟩, .int .i64 0, .string ⟨#[]⟩, .bool false, .string ⟨#[]⟩, .bool false, .string ⟨#[]⟩] 76 (0, 0))) w5.heap.size r2 uZ := hbx
      have b6 := below_alloc (Below.refl w5.heap.size w5) (.cells #[.string r2, .string ⟨#[]⟩, .string ⟨#[]⟩, .string ⟨#[]⟩, .string ⟨#[]⟩, .int .i64 0, .string ⟨#[]⟩, .bool false, .string ⟨#[]⟩, .bool false, .string ⟨#[]⟩] 76 (0, 0))
      have hg05 := Z5.out.lt
      have hw5 := B5.out.size
      have h35 := T5.out.2.2
      clear hbx
      generalize w5.alloc (.cells #[.string r2, .string ⟨#[]⟩, .string ⟨#[]⟩, .string ⟨#[]⟩, .string ⟨#[]⟩, .int .i64 0, .string ⟨#[]⟩, .bool false, .string ⟨#[]⟩, .bool false, .string ⟨#[]⟩] 76 (0, 0)) = w6 at R6 b6 ⊢
      have RB6 := Lib.hid R6
      have Z6 := Lib.hid (Z5.out.below b6)
      have B6 := Lib.hid (below_step B5.out b6)
      have T6 := Lib.hid (T5.out.below b6)
      clear R6 Z5 B5 T5 b6
      generalize w5.heap.size = g5 at RB6 hg05 hw5 h35 ⊢
      have step : ∀ wa wb : World, Hid (FB wa g0 uZ) → Hid (Below w.heap.size w wa) → Hid (Tabs wa) → Below g5 wa wb → Hid (FB wb g0 uZ) ∧ Hid (Below w.heap.size w wb) ∧ Hid (Tabs wb) := fun _ _ z b t h => ⟨Lib.hid ((h.block g0 hg05).trans z.out), Lib.hid (below_weaken b.out hw5 h), Lib.hid (TabsTo t.out h h35)⟩
      have STEP := Lib.hid step
      clear step
      refine (scheme_walk g5 r2 uZ _ (by omega) RB6.out).mono ?_
      rintro e w7 ⟨b, rfl, b7, HS⟩
      obtain ⟨Z7, B7, T7⟩ := STEP.out _ _ Z6 B6 T6 b7
      clear Z6 B6 T6 b7 RB6
      rcases HS.out with ⟨rfl, d, r3, hp, hb, hr⟩ | ⟨rfl, hno⟩
      · rw [E5.out] at hp hb hr
        have HR := Lib.hid (url_rest (r := bs r3) c2 (Prod.ext rfl hb) hp)
        have HP := Lib.hid (show (portP (Web.lowerL (Web.brk (· == 58) (Web.clean (bs s))).1)).1 = (d : Int) by unfold portP; rw [hp])
        have hs3 : r3.size ≤ s.size := by
          have h1 := brk_snd_len (· == 58) (Web.clean (bs s))
          have h2 := clean_len (bs s)
          rw [hb, List.length_cons, bs_len] at h1
          rw [bs_len] at h2
          omega
        obtain ⟨sch, hsch⟩ : ∃ x, Web.lowerL (Web.brk (· == 58) (Web.clean (bs s))).1 = x := ⟨_, rfl⟩
        rw [hsch] at HR HP hr
        have RB7 := Lib.hid hr
        clear hp hb hr hsch HS
        go_wp2_with fail
        go_loopw [31] (fun v31 wr => ∃ x : ByteArray, Hid (RB wr g5 x { uZ with scheme := sch }) ∧ Hid ((bs x).dropWhile Web.slash = (bs r3).dropWhile Web.slash) ∧ x.size ≤ r3.size ∧ Hid (FB wr g0 uZ) ∧ Hid (Below w.heap.size w wr) ∧ Hid (Tabs wr)) (fun _ wr => vStr (wr.cell? ⟨g5, 0, none⟩))
        case atStart => exact ⟨r3, RB7, Lib.hid rfl, Nat.le_refl _, Z7, B7, T7⟩
        case round =>
          obtain ⟨x, RB8, HX, hx, Z8, B8, T8⟩ := hrel
          go_wp2_with fail
          refine (pass_walk g5 x [47, 92] Web.slash isSlash2 _ _ (by omega) RB8.out).mono ?_
          rintro e w9 ⟨b, rfl, b9, HQ⟩
          obtain ⟨Z9, B9, T9⟩ := STEP.out _ _ Z8 B8 T8 b9
          have C8 := Lib.hid RB8.out.c0
          clear Z8 B8 T8 b9 RB8
          rcases HQ.out with ⟨rfl, c, r, hc, hq, hr⟩ | ⟨rfl, hc, hr⟩
          · have RB9 := Lib.hid hr
            have hrx : r.size + 1 = x.size := by
              have := congrArg List.length hc
              rw [bs_len, List.length_cons, bs_len] at this
              omega
            have HX9 := Lib.hid (show (bs r).dropWhile Web.slash = (bs r3).dropWhile Web.slash by rw [← HX.out, hc, List.dropWhile_cons_of_pos hq])
            clear hc hq hr HQ HX
            go_wp2_with fail
            go_roundw
            case rel => exact ⟨r, RB9, HX9, by omega, Z9, B9, T9⟩
            case measure => rw [C8.out, RB9.out.c0]; show r.size < x.size; omega
          · have RB9 := Lib.hid hr
            have HX9 := Lib.hid (slash_stop HX.out hc)
            clear hc hr HQ HX C8
            go_wp2_with fail
            refine (authority_walk g5 d x { uZ with scheme := sch } _ (by omega) HP.out ⟨rfl, rfl⟩ RB9.out).mono ?_
            rintro e w10 ⟨b, rfl, b10, HA⟩
            obtain ⟨Z10, B10, T10⟩ := STEP.out _ _ Z9 B9 T9 b10
            clear Z9 B9 T9 b10 RB9
            rcases HA.out with ⟨rfl, us, ps, ho, pn, r4, ha, hr4, hrb⟩ | ⟨rfl, ha⟩
            · have RB10 := Lib.hid hrb
              have HA4 := Lib.hid ha
              have HR4 := Lib.hid hr4
              have hs4 : r4.size ≤ x.size := by rw [← bs_len, hr4, ← bs_len x]; exact brk_snd_len _ _
              have HH := Lib.hid (show HeadEnds (bs r4) by rw [hr4]; exact headEnds_brk (bs x))
              clear ha hr4 hrb HA
              go_wp2_with fail
              refine (path_walk g5 r4 _ _ (by omega) RB10.out h35 T10.out.2.1 HH.out).mono ?_
              rintro e w11 ⟨⟨v, rfl⟩, b11, r5, HP5⟩
              obtain ⟨Z11, B11, T11⟩ := STEP.out _ _ Z10 B10 T10 b11
              have RB11 := Lib.hid HP5.out.2
              have H5 := Lib.hid HP5.out.1
              have hs5 : r5.size ≤ r4.size := by rw [← bs_len, H5.out, ← bs_len r4]; exact brk_snd_len _ _
              clear Z10 B10 T10 b11 RB10 HP5 HH
              go_wp2_with fail
              refine (pass_walk g5 r5 [63] (· == 63) is63 _ _ (by omega) RB11.out).mono ?_
              rintro e w12 ⟨b, rfl, b12, HQ⟩
              obtain ⟨Z12, B12, T12⟩ := STEP.out _ _ Z11 B11 T11 b12
              clear Z11 B11 T11 b12 RB11
              have hq6 : ∃ r6 : ByteArray, RB w12 g5 r6 ⟨sch, us, ps, ho, pn, Web.path (Web.brk qf (bs r4)).1, false, [], false, []⟩ ∧ r6.size ≤ r5.size ∧ ((b = true ∧ ∃ c, bs r5 = c :: bs r6 ∧ (c == 63) = true) ∨ (b = false ∧ r6 = r5 ∧ ∀ c r, bs r5 = c :: r → (c == 63) = false)) := by
                rcases HQ.out with ⟨hb, c, r, hc, hq, hr⟩ | ⟨hb, hc, hr⟩
                · refine ⟨r, hr, ?_, .inl ⟨hb, c, hc, hq⟩⟩
                  have := congrArg List.length hc
                  rw [bs_len, List.length_cons, bs_len] at this
                  omega
                · exact ⟨r5, hr, Nat.le_refl _, .inr ⟨hb, rfl, hc⟩⟩
              obtain ⟨r6, hr6, hs6, hq6⟩ := hq6
              have q7 := hr6.c7
              have f7 := hr6.f 7
              have RB13 := Lib.hid (hr6.set7 b)
              have q7b := RB13.out.c7
              have HQ6 := Lib.hid hq6
              obtain ⟨Z13, B13, T13⟩ := STEP.out _ _ Z12 B12 T12 ((Below.refl g5 w12).setCell (p := ⟨g5, 7, none⟩) (Nat.le_refl _) (.bool b))
              clear HQ hq6 hr6 Z12 B12 T12
              go_upto_if 50 with (fail)
              clear q7 f7 q7b
              generalize w12.setCell ⟨g5, 7, none⟩ (.bool b) = w13 at RB13 Z13 B13 T13 ⊢
              go_cut [55] (fun _ wc => ∃ r7 : ByteArray, Hid (RB wc g5 r7 ⟨sch, us, ps, ho, pn, Web.path (Web.brk qf (bs r4)).1, !(Web.brk (· == 35) (bs r5)).1.isEmpty, Web.enc 2 ((Web.brk (· == 35) (bs r5)).1.drop 1), false, []⟩) ∧ Hid (bs r7 = (Web.brk (· == 35) (bs r5)).2) ∧ r7.size ≤ r5.size ∧ Hid (FB wc g0 uZ) ∧ Hid (Below w.heap.size w wc) ∧ Hid (Tabs wc))
              case first =>
                rcases HQ6.out with ⟨rfl, c, hc, hq⟩ | ⟨rfl, rfl, hc⟩
                · have HY := Lib.hid (q_yes hc hq)
                  clear hc hq HQ6
                  go_wp2_with fail
                  refine (upTo_walk g5 r6 [35] (· == 35) is35 _ _ (by omega) RB13.out).mono ?_
                  rintro e w14 ⟨a, r7, rfl, HA7, b14, RB14⟩
                  obtain ⟨Z14, B14, T14⟩ := STEP.out _ _ Z13 B13 T13 b14
                  clear Z13 B13 T13 b14 RB13
                  have ha7 : a.size ≤ r6.size := by rw [← bs_len, HA7.out.1, ← bs_len r6]; exact brk_fst_len _ _
                  have hr7 : r7.size ≤ r6.size := by rw [← bs_len, HA7.out.2, ← bs_len r6]; exact brk_snd_len _ _
                  go_wp2_with fail
                  refine (pencode_c a 2 _ (by omega) (by decide)).mono ?_
                  rintro e w15 ⟨q, rfl, HE, hqs, b15⟩
                  have RB15 := Lib.hid (RB14.out.below b15)
                  have Z15 := Lib.hid (Z14.out.below b15)
                  have B15 := Lib.hid (below_step B14.out b15)
                  have T15 := Lib.hid (T14.out.below b15)
                  clear Z14 B14 T14 b15 RB14
                  have q8 := RB15.out.c8
                  have f8 := RB15.out.f 8
                  have RB16 := Lib.hid (RB15.out.set8 (bs q))
                  obtain ⟨Z16, B16, T16⟩ := STEP.out _ _ Z15 B15 T15 ((Below.refl g5 w15).setCell (p := ⟨g5, 8, none⟩) (Nat.le_refl _) (.string q))
                  clear Z15 B15 T15 RB15
                  go_wp2_with fail
                  go_meet
                  case rel =>
                    refine ⟨r7, Lib.hid ?_, Lib.hid ?_, by omega, Z16, B16, T16⟩
                    · have e9 : bs q = Web.enc 2 (List.drop 1 (63 :: (Web.brk (· == 35) (bs r6)).1)) := by rw [HE.out, HA7.out.1]; rfl
                      rw [HY.out]
                      dsimp only
                      rw [← e9]
                      exact RB16.out
                    · rw [HY.out, HA7.out.2]
                · have HY := Lib.hid (q_no H5.out hc)
                  clear hc HQ6
                  go_wp2_with fail
                  go_meet
                  case rel =>
                    refine ⟨r6, Lib.hid ?_, Lib.hid ?_, Nat.le_refl _, Z13, B13, T13⟩
                    · rw [HY.out]; exact RB13.out
                    · rw [HY.out]
              case rest =>
                obtain ⟨r7, RB17, H7, hs7, Z17, B17, T17⟩ := hcut
                clear RB13 Z13 B13 T13 HQ6
                obtain ⟨uq, huq⟩ : ∃ x : Web.U, x = ⟨sch, us, ps, ho, pn, Web.path (Web.brk qf (bs r4)).1, !(Web.brk (· == 35) (bs r5)).1.isEmpty, Web.enc 2 ((Web.brk (· == 35) (bs r5)).1.drop 1), false, []⟩ := ⟨_, rfl⟩
                rw [← huq] at RB17
                have HUQ := Lib.hid huq
                clear huq
                go_wp2_with fail
                refine (pass_walk g5 r7 [35] (· == 35) is35 _ _ (by omega) RB17.out).mono ?_
                rintro e w18 ⟨b, rfl, b18, HQ⟩
                obtain ⟨Z18, B18, T18⟩ := STEP.out _ _ Z17 B17 T17 b18
                clear Z17 B17 T17 b18 RB17
                have hq8 : ∃ r8 : ByteArray, RB w18 g5 r8 uq ∧ r8.size ≤ r7.size ∧ ((b = true ∧ ∃ c, bs r7 = c :: bs r8 ∧ (c == 35) = true) ∨ (b = false ∧ ∀ c r, bs r7 = c :: r → (c == 35) = false)) := by
                  rcases HQ.out with ⟨hb, c, r, hc, hq, hr⟩ | ⟨hb, hc, hr⟩
                  · refine ⟨r, hr, ?_, .inl ⟨hb, c, hc, hq⟩⟩
                    have := congrArg List.length hc
                    rw [bs_len, List.length_cons, bs_len] at this
                    omega
                  · exact ⟨r7, hr, Nat.le_refl _, .inr ⟨hb, hc⟩⟩
                obtain ⟨r8, hr8, hs8, hq8⟩ := hq8
                have q9 := hr8.c9
                have f9 := hr8.f 9
                have RB19 := Lib.hid (hr8.set9 b)
                have q9b := RB19.out.c9
                have HQ8 := Lib.hid hq8
                obtain ⟨Z19, B19, T19⟩ := STEP.out _ _ Z18 B18 T18 ((Below.refl g5 w18).setCell (p := ⟨g5, 9, none⟩) (Nat.le_refl _) (.bool b))
                clear HQ hq8 hr8 Z18 B18 T18
                go_upto_if 72 with (fail)
                clear q9 f9 q9b
                generalize w18.setCell ⟨g5, 9, none⟩ (.bool b) = w19 at RB19 Z19 B19 T19 ⊢
                go_cut [78] (fun _ wc => ∃ r9 : ByteArray, Hid (RB wc g5 r9 ⟨sch, us, ps, ho, pn, Web.path (Web.brk qf (bs r4)).1, !(Web.brk (· == 35) (bs r5)).1.isEmpty, Web.enc 2 ((Web.brk (· == 35) (bs r5)).1.drop 1), !(Web.brk (· == 35) (bs r5)).2.isEmpty, Web.enc 1 ((Web.brk (· == 35) (bs r5)).2.drop 1)⟩) ∧ Hid (FB wc g0 uZ) ∧ Hid (Below w.heap.size w wc))
                case first =>
                  rcases HQ8.out with ⟨rfl, c, hc, hq⟩ | ⟨rfl, hc⟩
                  · have HY := Lib.hid (show (Web.brk (· == 35) (bs r5)).2 = 35 :: bs r8 by
                      have e : c = 35 := by simpa using hq
                      rw [← H7.out, hc, e])
                    clear hc hq HQ8
                    have q0 := RB19.out.c0
                    go_wp2_with fail
                    refine (pencode_c r8 1 _ (by omega) (by decide)).mono ?_
                    rintro e w20 ⟨f, rfl, HE, hfs, b20⟩
                    have RB20 := Lib.hid (RB19.out.below b20)
                    have Z20 := Lib.hid (Z19.out.below b20)
                    have B20 := Lib.hid (below_step B19.out b20)
                    have T20 := Lib.hid (T19.out.below b20)
                    clear Z19 B19 T19 b20 RB19 q0
                    have q10 := RB20.out.c10
                    have f10 := RB20.out.f 10
                    have RB21 := Lib.hid (RB20.out.set10 (bs f))
                    obtain ⟨Z21, B21, T21⟩ := STEP.out _ _ Z20 B20 T20 ((Below.refl g5 w20).setCell (p := ⟨g5, 10, none⟩) (Nat.le_refl _) (.string f))
                    clear Z20 B20 T20 RB20
                    go_wp2_with fail
                    go_meet
                    case rel =>
                      refine ⟨r8, Lib.hid ?_, Z21, B21⟩
                      have e9 : bs f = Web.enc 1 (List.drop 1 (35 :: bs r8)) := by rw [HE.out]; rfl
                      rw [HY.out, ← e9]
                      have := RB21.out
                      rw [HUQ.out] at this
                      exact this
                  · have HY := Lib.hid (show (Web.brk (· == 35) (bs r5)).2 = [] from f_no rfl (by rw [← H7.out]; exact hc))
                    clear hc HQ8
                    go_wp2_with fail
                    go_meet
                    case rel =>
                      refine ⟨r8, Lib.hid ?_, Z19, B19⟩
                      have := RB19.out
                      rw [HUQ.out] at this
                      rw [HY.out]
                      exact this
                case rest =>
                  obtain ⟨r9, RB22, Z22, B22⟩ := hcut
                  clear RB19 Z19 B19 T19 HQ8
                  obtain ⟨uu, huu⟩ : ∃ x : Web.U, x = ⟨sch, us, ps, ho, pn, Web.path (Web.brk qf (bs r4)).1, !(Web.brk (· == 35) (bs r5)).1.isEmpty, Web.enc 2 ((Web.brk (· == 35) (bs r5)).1.drop 1), !(Web.brk (· == 35) (bs r5)).2.isEmpty, Web.enc 1 ((Web.brk (· == 35) (bs r5)).2.drop 1)⟩ := ⟨_, rfl⟩
                  rw [← huu] at RB22
                  have HUU := Lib.hid huu
                  clear huu
                  obtain ⟨zc0, zc1, zc2, zc3, zc4, zc5, zc6, zc7, zc8, zc9⟩ := Z22.out.cells
                  obtain ⟨zf0, zf1, zf2, zf3, zf4, zf5, zf6, zf7, zf8, zf9⟩ := Z22.out.frozens
                  have uc1 := RB22.out.c1; have uc2 := RB22.out.c2; have uc3 := RB22.out.c3; have uc4 := RB22.out.c4; have uc5 := RB22.out.c5
                  have uc6 := RB22.out.c6; have uc7 := RB22.out.c7; have uc8 := RB22.out.c8; have uc9 := RB22.out.c9; have uc10 := RB22.out.c10
                  go_wp2_with fail
                  refine bodyPost_ret (results_ct rfl _ _ g0 24 _ (0, 0) _ rfl (Z22.out.put uu) Tryz.underlying24 rfl (by kernel_rfl)) rfl ⟨?_, put10 B22.out G0.out⟩
                  have fin : Web.url (bs s) = some uu := by
                    rw [HR.out, HUU.out]
                    refine urlRest_some (h := ho) (n := pn) (u := us) (p := ps) ?_ ?_ ?_
                    · rw [HX9.out]
                      unfold authIs
                      rw [HA4.out]
                      exact ⟨rfl, rfl⟩
                    · rw [HX9.out, ← HR4.out]; rfl
                    · rw [HX9.out, ← HR4.out]
                      have e := H5.out
                      unfold qf at e
                      rw [← e]
                  rw [fin]
                  rfl
            · have HN := Lib.hid (show Web.url (bs s) = none by rw [HR.out]; unfold urlRest; rw [HX9.out, ha])
              clear ha HA HX9 HR
              obtain ⟨zc0, zc1, zc2, zc3, zc4, zc5, zc6, zc7, zc8, zc9⟩ := Z10.out.cells
              obtain ⟨zf0, zf1, zf2, zf3, zf4, zf5, zf6, zf7, zf8, zf9⟩ := Z10.out.frozens
              go_wp2_with fail
              refine bodyPost_ret (results_ct rfl _ _ g0 24 _ (0, 0) _ rfl (Z10.out.put uZ) Tryz.underlying24 rfl (by kernel_rfl)) rfl ⟨?_, put10 B10.out G0.out⟩
              rw [HN.out]
              rfl
      · rw [E5.out] at hno
        have HN := Lib.hid (url_none hno)
        clear hno HS
        obtain ⟨zc0, zc1, zc2, zc3, zc4, zc5, zc6, zc7, zc8, zc9⟩ := Z7.out.cells
        obtain ⟨zf0, zf1, zf2, zf3, zf4, zf5, zf6, zf7, zf8, zf9⟩ := Z7.out.frozens
        go_wp2_with fail
        refine bodyPost_ret (results_ct rfl _ _ g0 24 _ (0, 0) _ rfl (Z7.out.put uZ) Tryz.underlying24 rfl (by kernel_rfl)) rfl ⟨?_, put10 B7.out G0.out⟩
        rw [HN.out]
        rfl
    · have c2' := Bool.eq_false_iff.2 c2
      obtain ⟨zc0, zc1, zc2, zc3, zc4, zc5, zc6, zc7, zc8, zc9⟩ := Z1.out.cells
      obtain ⟨zf0, zf1, zf2, zf3, zf4, zf5, zf6, zf7, zf8, zf9⟩ := Z1.out.frozens
      rw [c2']
      go_wp2_with fail
      refine bodyPost_ret (results_ct rfl _ _ g0 24 _ (0, 0) _ rfl (Z1.out.put uZ) Tryz.underlying24 rfl (by kernel_rfl)) rfl ⟨?_, put10 B1.out G0.out⟩
      unfold Web.url
      rw [c2']
      rfl
end Go.Proofs.YtcmcopieagpppaaGreatDoor.P
namespace Go.Proofs.YtcmcopieagpppaaGreatDoor.P
set_option linter.unusedVariables false
set_option linter.unusedSimpArgs false
structure O where
  scheme : List UInt8
  host : List UInt8
  port : Int
deriving DecidableEq
def O.zero : O := ⟨[], [], 0⟩
end Go.Proofs.YtcmcopieagpppaaGreatDoor.P
namespace Go.Proofs.YtcmcopieagpppaaGreatDoor.P
set_option linter.unusedVariables false
set_option linter.unusedSimpArgs false
def awT : List UInt8 := [72, 84, 84, 80, 83, 58, 92, 92, 69, 120, 46, 99, 111, 109, 58, 52, 52, 51, 92, 97, 92, 46, 46, 92, 98, 63, 113, 35, 102]
def awU : Web.U := ⟨[104, 116, 116, 112, 115], [], [], [101, 120, 46, 99, 111, 109], -1, [47, 98], true, [113], true, [102]⟩
theorem aw_parse : Web.parse awT = some awU := by decide +kernel
def xs (n : Nat) : List (List UInt8) := List.replicate n [120]
end Go.Proofs.YtcmcopieagpppaaGreatDoor.P
namespace Go.Proofs.YtcmcopieagpppaaGreatDoor.P
open Go.RowKit Go.Proofs.YtcmcopieagpppaaGreatDoorW.PrintWords Go.Proofs.YtcmcopieagpppaaGreatDoorW.PrintLast Go.Proofs.YtcmcopieagpppaaGreatDoorW.PrintMore
set_option linter.unusedVariables false
set_option linter.unusedSimpArgs false
theorem eqA24 (d : Nat) (w : World) (x0 y0 x1 y1 x2 y2 x3 y3 : ByteArray) (x4 y4 : Int) (x5 y5 : ByteArray) (x6 y6 : Bool) (x7 y7 : ByteArray) (x8 y8 : Bool) (x9 y9 : ByteArray) :
    (Op.equalIn (d + 2) 24 (.agg #[.string x0, .string x1, .string x2, .string x3, .int .i64 x4, .string x5, .bool x6, .string x7, .bool x8, .string x9]) (.agg #[.string y0, .string y1, .string y2, .string y3, .int .i64 y4, .string y5, .bool y6, .string y7, .bool y8, .string y9])).run Tryz.prog w = .ok (x0.toList == y0.toList && (x1.toList == y1.toList && (x2.toList == y2.toList && (x3.toList == y3.toList && (x4 == y4 && (x5.toList == y5.toList && (x6 == y6 && (x7.toList == y7.toList && (x8 == y8 && (x9.toList == y9.toList)))))))))) w := by
  refine eqA_of Tryz.underlying24 (by kernel_rfl) ?_
  refine eqf_cons (by rfl) (by go_simp; rfl) (by go_simp; rfl) (by go_simp) ?_
  refine eqf_cons (by rfl) (by go_simp; rfl) (by go_simp; rfl) (by go_simp) ?_
  refine eqf_cons (by rfl) (by go_simp; rfl) (by go_simp; rfl) (by go_simp) ?_
  refine eqf_cons (by rfl) (by go_simp; rfl) (by go_simp; rfl) (by go_simp) ?_
  refine eqf_cons (by rfl) (by go_simp; rfl) (by go_simp; rfl) (by go_simp) ?_
  refine eqf_cons (by rfl) (by go_simp; rfl) (by go_simp; rfl) (by go_simp) ?_
  refine eqf_cons (by rfl) (by go_simp; rfl) (by go_simp; rfl) (by go_simp) ?_
  refine eqf_cons (by rfl) (by go_simp; rfl) (by go_simp; rfl) (by go_simp) ?_
  refine eqf_cons (by rfl) (by go_simp; rfl) (by go_simp; rfl) (by go_simp) ?_
  exact eqf_last (by rfl) (by go_simp; rfl) (by go_simp; rfl) (by go_simp)
theorem url_eql (W : World) (x0 x1 x2 x3 : ByteArray) (x4 : Int) (x5 : ByteArray) (x6 : Bool) (x7 : ByteArray) (x8 : Bool) (x9 : ByteArray) :
    (binOp .eql 24 (.agg #[.string x0, .string x1, .string x2, .string x3, .int .i64 x4, .string x5, .bool x6, .string x7, .bool x8, .string x9]) (.agg #[.string x0, .string x1, .string x2, .string x3, .int .i64 x4, .string x5, .bool x6, .string x7, .bool x8, .string x9])).run Tryz.prog W = .ok (.bool true) W := by
  have h := eqA24 9998 W x0 x0 x1 x1 x2 x2 x3 x3 x4 x4 x5 x5 x6 x6 x7 x7 x8 x8 x9 x9
  simp only [BEq.rfl, Bool.and_self] at h
  simp only [binOp]
  simp [Op.equal, Op.maxDepth, h]
set_option maxRecDepth 100000 in
theorem port_c (s0 s1 s2 s3 : ByteArray) (p : Int) (s5 : ByteArray) (b6 : Bool) (s7 : ByteArray) (b8 : Bool) (s9 : ByteArray) (w : World) :
    Calls Tryz.prog 29 #[.agg #[.string s0, .string s1, .string s2, .string s3, .int .i64 p, .string s5, .bool b6, .string s7, .bool b8, .string s9]] w fun e w' => e = .returned (.int .i64 (if p = -1 then (portP (bs s0)).1 else p)) ∧ Below w.heap.size w w' := by
  have B := Lib.hid (Below.refl w.heap.size w)
  by_cases hp : p = -1
  · have hp' : (p != -1) = false := by simp [hp]
    rw [if_pos hp]
    clear hp
    go_enter Tryz.func29, Tryz.ntmps29
    go_wp2_with (go_at_call 25; refine (url_default_c s0 _).mono ?_; rintro e w1 ⟨rfl, hb⟩; have HB := Lib.hid (below_step (below_alloc B.out _) hb.below); clear hb)
    go_ret
    exact ⟨rfl, HB.out⟩
  · have hp' : (p != -1) = true := by simp [hp]
    rw [if_neg hp]
    clear hp
    go_enter Tryz.func29, Tryz.ntmps29
    go_wp2_with fail
    go_ret
    exact ⟨rfl, below_alloc B.out _⟩
end Go.Proofs.YtcmcopieagpppaaGreatDoor.P
namespace Go.Proofs.YtcmcopieagpppaaGreatDoor.P
open Go.RowKit Go.Proofs.YtcmcopieagpppaaGreatDoorW.PrintWords Go.Proofs.YtcmcopieagpppaaGreatDoorW.PrintLast Go.Proofs.YtcmcopieagpppaaGreatDoorW.PrintMore
set_option linter.unusedVariables false
set_option linter.unusedSimpArgs false
def UK (w : World) (g : Nat) (x0 x1 x2 x3 : ByteArray) (x4 : Int) (x5 : ByteArray) (x6 : Bool) (x7 : ByteArray) (x8 : Bool) (x9 : ByteArray) : Prop := w.heap[g]? = some (.cells #[.string x0, .string x1, .string x2, .string x3, .int .i64 x4, .string x5, .bool x6, .string x7, .bool x8, .string x9] 24 (0, 0))
theorem UK.below {w w1 : World} {g : Nat} {x0 x1 x2 x3 : ByteArray} {x4 : Int} {x5 : ByteArray} {x6 : Bool} {x7 : ByteArray} {x8 : Bool} {x9 : ByteArray} (h : UK w g x0 x1 x2 x3 x4 x5 x6 x7 x8 x9) (hb : Below w.heap.size w w1) : UK w1 g x0 x1 x2 x3 x4 x5 x6 x7 x8 x9 := blk_below h hb
theorem UK.lt {w : World} {g : Nat} {x0 x1 x2 x3 : ByteArray} {x4 : Int} {x5 : ByteArray} {x6 : Bool} {x7 : ByteArray} {x8 : Bool} {x9 : ByteArray} (h : UK w g x0 x1 x2 x3 x4 x5 x6 x7 x8 x9) : g < w.heap.size := blk_lt h
theorem UK.cells {w : World} {g : Nat} {x0 x1 x2 x3 : ByteArray} {x4 : Int} {x5 : ByteArray} {x6 : Bool} {x7 : ByteArray} {x8 : Bool} {x9 : ByteArray} (h : UK w g x0 x1 x2 x3 x4 x5 x6 x7 x8 x9) : w.cell? ⟨g, 0, none⟩ = some (.string x0) ∧ w.cell? ⟨g, 1, none⟩ = some (.string x1) ∧ w.cell? ⟨g, 2, none⟩ = some (.string x2) ∧ w.cell? ⟨g, 3, none⟩ = some (.string x3) ∧ w.cell? ⟨g, 4, none⟩ = some (.int .i64 x4) ∧ w.cell? ⟨g, 5, none⟩ = some (.string x5) ∧ w.cell? ⟨g, 6, none⟩ = some (.bool x6) ∧ w.cell? ⟨g, 7, none⟩ = some (.string x7) ∧ w.cell? ⟨g, 8, none⟩ = some (.bool x8) ∧ w.cell? ⟨g, 9, none⟩ = some (.string x9) :=
  ⟨(blk_cell h 0).trans rfl, (blk_cell h 1).trans rfl, (blk_cell h 2).trans rfl, (blk_cell h 3).trans rfl, (blk_cell h 4).trans rfl, (blk_cell h 5).trans rfl, (blk_cell h 6).trans rfl, (blk_cell h 7).trans rfl, (blk_cell h 8).trans rfl, (blk_cell h 9).trans rfl⟩
theorem UK.make (x0 x1 x2 x3 : ByteArray) (x4 : Int) (x5 : ByteArray) (x6 : Bool) (x7 : ByteArray) (x8 : Bool) (x9 : ByteArray) {w w1 : World} (hB : Below w.heap.size w w1) (hT : Tabs w1) : ∃ (w2 : World) (g : Nat), w1.alloc (.cells #[.string x0, .string x1, .string x2, .string x3, .int .i64 x4, .string x5, .bool x6, .string x7, .bool x8, .string x9] 24 (0, 0)) = w2 ∧ w1.heap.size = g ∧ Hid (UK w2 g x0 x1 x2 x3 x4 x5 x6 x7 x8 x9) ∧ Hid (Below w.heap.size w w2) ∧ Hid (Tabs w2) ∧ Below w1.heap.size w1 w2 := by
  have b := below_alloc (Below.refl w1.heap.size w1) (.cells #[.string x0, .string x1, .string x2, .string x3, .int .i64 x4, .string x5, .bool x6, .string x7, .bool x8, .string x9] 24 (0, 0))
  exact ⟨_, _, rfl, rfl, Lib.hid (heap_alloc_new w1 _), Lib.hid (below_step hB b), Lib.hid (hT.below b), b⟩
end Go.Proofs.YtcmcopieagpppaaGreatDoor.P
namespace Go.Proofs.YtcmcopieagpppaaGreatDoor.P
open Go.RowKit Go.Proofs.YtcmcopieagpppaaGreatDoorW.PrintWords Go.Proofs.YtcmcopieagpppaaGreatDoorW.PrintLast Go.Proofs.YtcmcopieagpppaaGreatDoorW.PrintMore
set_option linter.unusedVariables false
set_option linter.unusedSimpArgs false
theorem bs_app (a b : ByteArray) : bs (a ++ b) = bs a ++ bs b := by
  have := ba_append (bs a) (bs b)
  rw [ba_bs, ba_bs] at this
  rw [this]
  rfl
theorem bs_lit (l : List UInt8) : bs ⟨l.toArray⟩ = l := rfl
def urlA (s0 s1 s2 s3 : ByteArray) (p : Int) (s5 : ByteArray) (b6 : Bool) (s7 : ByteArray) (b8 : Bool) (s9 : ByteArray) : Value := .agg #[.string s0, .string s1, .string s2, .string s3, .int .i64 p, .string s5, .bool b6, .string s7, .bool b8, .string s9]
def urlU (s0 s1 s2 s3 : ByteArray) (p : Int) (s5 : ByteArray) (b6 : Bool) (s7 : ByteArray) (b8 : Bool) (s9 : ByteArray) : Web.U := ⟨bs s0, bs s1, bs s2, bs s3, p, bs s5, b6, bs s7, b8, bs s9⟩
theorem bcell2 {W w1 : World} (hb : Below W.heap.size W w1) : (∀ b o, b < W.heap.size → w1.cell? ⟨b, o, none⟩ = W.cell? ⟨b, o, none⟩) ∧ (∀ b o, b < W.heap.size → w1.frozen? ⟨b, o, none⟩ = W.frozen? ⟨b, o, none⟩) :=
  ⟨fun b o h => hb.cell (p := ⟨b, o, none⟩) h, fun b o h => hb.frozen (p := ⟨b, o, none⟩) h⟩
set_option maxRecDepth 100000 in
set_option maxHeartbeats 8000000 in
theorem text_walk (s0 s1 s2 s3 : ByteArray) (p : Int) (s5 : ByteArray) (b6 : Bool) (s7 : ByteArray) (b8 : Bool) (s9 : ByteArray) (w : World) (hp0 : -1 ≤ p) (hp1 : p ≤ 65535) (hs : s0.size + s1.size + s2.size + s3.size + s5.size + s7.size + s9.size ≤ 1000000) :
    Calls Tryz.prog 27 #[urlA s0 s1 s2 s3 p s5 b6 s7 b8 s9] w fun e w' => ∃ t : ByteArray, e = .returned (.string t) ∧ Hid (bs t = Web.text (urlU s0 s1 s2 s3 p s5 b6 s7 b8 s9)) ∧ Below w.heap.size w w' := by
  unfold urlA
  have y1 : (⟨#[58, 47, 47]⟩ : ByteArray).size = 3 := rfl
  have y2 : (⟨#[58]⟩ : ByteArray).size = 1 := rfl
  have y3 : (⟨#[64]⟩ : ByteArray).size = 1 := rfl
  have y4 : (⟨#[63]⟩ : ByteArray).size = 1 := rfl
  have y5 : (⟨#[35]⟩ : ByteArray).size = 1 := rfl
  have z1 : s1.toList.isEmpty = (bs s1).isEmpty := by rw [bs_toList]
  have z2 : s2.toList.isEmpty = (bs s2).isEmpty := by rw [bs_toList]
  have e : Hid (Web.text (urlU s0 s1 s2 s3 p s5 b6 s7 b8 s9) = bs s0 ++ [58, 47, 47] ++ (if (bs s1).isEmpty ∧ (bs s2).isEmpty then [] else bs s1 ++ (if (bs s2).isEmpty then [] else 58 :: bs s2) ++ [64]) ++ bs s3 ++ (if p = -1 then [] else 58 :: Web.portText p) ++ bs s5 ++ (if b6 then 63 :: bs s7 else []) ++ (if b8 then 35 :: bs s9 else [])) := Lib.hid (by
    unfold Web.text urlU
    simp only [List.isEmpty_iff])
  have B := Lib.hid (Below.refl w.heap.size w)
  by_cases hp : p = -1
  · have hp' : (p != -1) = false := by simp [hp]
    cases h1 : (bs s1).isEmpty <;> cases h2 : (bs s2).isEmpty <;> cases b6 <;> cases b8
    all_goals
      rw [h1] at z1
      rw [h2] at z2
      have H1 := Lib.hid h1
      have H2 := Lib.hid h2
      have HP := Lib.hid hp
      clear h1 h2 hp
      go_enter Tryz.func27, Tryz.ntmps27
      go_wp2_with fail
      go_ret
      refine ⟨_, rfl, Lib.hid ?_, below_alloc B.out _⟩
      rw [e.out, H1.out, H2.out, if_pos HP.out]
      simp [bs_app, bs_lit]
  · have hp' : (p != -1) = true := by simp [hp]
    have hpt : Hid (Web.portText p = Web.decimal p.toNat) := Lib.hid (by
      obtain ⟨n, rfl⟩ := Int.eq_ofNat_of_zero_le (show 0 ≤ p by omega)
      exact portText_nat n)
    have hp2 : 0 ≤ p := by omega
    cases h1 : (bs s1).isEmpty <;> cases h2 : (bs s2).isEmpty <;> cases b6 <;> cases b8
    all_goals
      rw [h1] at z1
      rw [h2] at z2
      have H1 := Lib.hid h1
      have H2 := Lib.hid h2
      have HP := Lib.hid hp
      clear h1 h2 hp
      go_enter Tryz.func27, Tryz.ntmps27
      go_wp2_with (go_at_call 69; refine (ascii_decimal_out p _ hp2 (by omega)).mono ?_; rintro e w1 ⟨d, rfl, HD, hd, hb⟩; have HB := Lib.hid (below_step (below_alloc B.out _) hb); obtain ⟨hcc, hff⟩ := bcell2 hb; clear hb)
      go_ret
      refine ⟨_, rfl, Lib.hid ?_, HB.out⟩
      rw [e.out, H1.out, H2.out, if_neg HP.out, hpt.out]
      simp [bs_app, bs_lit, HD.out, bs_ba]
end Go.Proofs.YtcmcopieagpppaaGreatDoor.P
namespace Go.Proofs.YtcmcopieagpppaaGreatDoor.P
open Go.RowKit Go.Proofs.YtcmcopieagpppaaGreatDoorW.PrintWords Go.Proofs.YtcmcopieagpppaaGreatDoorW.PrintLast Go.Proofs.YtcmcopieagpppaaGreatDoorW.PrintMore
set_option linter.unusedVariables false
set_option linter.unusedSimpArgs false
theorem aw_none : Web.parse [102, 105, 108, 101, 58, 47, 47, 47, 97] = none := by decide +kernel
theorem aw_p1 (W : World) (hT : Tabs W) : Calls Tryz.prog 22 #[.string ⟨#[72, 84, 84, 80, 83, 58, 92, 92, 69, 120, 46, 99, 111, 109, 58, 52, 52, 51, 92, 97, 92, 46, 46, 92, 98, 63, 113, 35, 102]⟩] W fun e w' => e = .returned (.tuple #[.agg #[.string ⟨#[104, 116, 116, 112, 115]⟩, .string ⟨#[]⟩, .string ⟨#[]⟩, .string ⟨#[101, 120, 46, 99, 111, 109]⟩, .int .i64 (-1), .string ⟨#[47, 98]⟩, .bool true, .string ⟨#[113]⟩, .bool true, .string ⟨#[102]⟩], .int .i64 0]) ∧ Below W.heap.size W w' := by
  have k := url_parse_walk ⟨#[72, 84, 84, 80, 83, 58, 92, 92, 69, 120, 46, 99, 111, 109, 58, 52, 52, 51, 92, 97, 92, 46, 46, 92, 98, 63, 113, 35, 102]⟩ W hT
  rw [show Web.parse (bs ⟨#[72, 84, 84, 80, 83, 58, 92, 92, 69, 120, 46, 99, 111, 109, 58, 52, 52, 51, 92, 97, 92, 46, 46, 92, 98, 63, 113, 35, 102]⟩) = some awU from aw_parse] at k
  exact k
theorem aw_p2 (W : World) (hT : Tabs W) : Calls Tryz.prog 22 #[.string ⟨#[102, 105, 108, 101, 58, 47, 47, 47, 97]⟩] W fun e w' => e = .returned (.tuple #[.agg #[.string ⟨#[]⟩, .string ⟨#[]⟩, .string ⟨#[]⟩, .string ⟨#[]⟩, .int .i64 0, .string ⟨#[]⟩, .bool false, .string ⟨#[]⟩, .bool false, .string ⟨#[]⟩], .int .i64 8]) ∧ Below W.heap.size W w' := by
  have k := url_parse_walk ⟨#[102, 105, 108, 101, 58, 47, 47, 47, 97]⟩ W hT
  rw [show Web.parse (bs ⟨#[102, 105, 108, 101, 58, 47, 47, 47, 97]⟩) = none from aw_none] at k
  exact k
theorem aw_text : Web.text awU = bs ⟨#[104, 116, 116, 112, 115, 58, 47, 47, 101, 120, 46, 99, 111, 109, 47, 98, 63, 113, 35, 102]⟩ := by decide +kernel
theorem bs_inj {a b : ByteArray} (h : bs a = bs b) : a = b := by
  rw [← ba_bs a, ← ba_bs b, h]
theorem aw_t1 (W : World) : Calls Tryz.prog 27 #[.agg #[.string ⟨#[104, 116, 116, 112, 115]⟩, .string ⟨#[]⟩, .string ⟨#[]⟩, .string ⟨#[101, 120, 46, 99, 111, 109]⟩, .int .i64 (-1), .string ⟨#[47, 98]⟩, .bool true, .string ⟨#[113]⟩, .bool true, .string ⟨#[102]⟩]] W fun e w' => e = .returned (.string ⟨#[104, 116, 116, 112, 115, 58, 47, 47, 101, 120, 46, 99, 111, 109, 47, 98, 63, 113, 35, 102]⟩) ∧ Below W.heap.size W w' := by
  refine (text_walk ⟨#[104, 116, 116, 112, 115]⟩ ⟨#[]⟩ ⟨#[]⟩ ⟨#[101, 120, 46, 99, 111, 109]⟩ (-1) ⟨#[47, 98]⟩ true ⟨#[113]⟩ true ⟨#[102]⟩ W (by decide) (by decide) (by decide)).mono ?_
  rintro e w' ⟨t, rfl, ht, hb⟩
  have h2 : t = ⟨#[104, 116, 116, 112, 115, 58, 47, 47, 101, 120, 46, 99, 111, 109, 47, 98, 63, 113, 35, 102]⟩ := bs_inj (ht.out.trans aw_text)
  rw [h2]
  exact ⟨rfl, hb⟩
theorem aw_r1 (W : World) : Calls Tryz.prog 29 #[.agg #[.string ⟨#[104, 116, 116, 112, 115]⟩, .string ⟨#[]⟩, .string ⟨#[]⟩, .string ⟨#[101, 120, 46, 99, 111, 109]⟩, .int .i64 (-1), .string ⟨#[47, 98]⟩, .bool true, .string ⟨#[113]⟩, .bool true, .string ⟨#[102]⟩]] W fun e w' => e = .returned (.int .i64 443) ∧ Below W.heap.size W w' := by
  have k := port_c ⟨#[104, 116, 116, 112, 115]⟩ ⟨#[]⟩ ⟨#[]⟩ ⟨#[101, 120, 46, 99, 111, 109]⟩ (-1) ⟨#[47, 98]⟩ true ⟨#[113]⟩ true ⟨#[102]⟩ W
  exact k
set_option maxRecDepth 100000 in
set_option maxHeartbeats 2000000 in
theorem awake11 (w : World) (hT : Tabs w) : Calls Tryz.prog 21 #[] w fun e w' => e = .returned (.bool true) ∧ Below w.heap.size w w' := by
  have HT := Lib.hid hT
  clear hT
  go_enter Tryz.func21, Tryz.ntmps21
  go_wp2_with fail
  refine (aw_p1 _ HT.out).mono ?_
  rintro e w1 ⟨rfl, b1⟩
  have B1 := Lib.hid b1
  have T1 := Lib.hid (HT.out.below b1)
  clear b1 HT
  go_wp2_with fail
  obtain ⟨w2, g2, ew, eg, K2, B2, T2, -⟩ := UK.make ⟨#[104, 116, 116, 112, 115]⟩ ⟨#[]⟩ ⟨#[]⟩ ⟨#[101, 120, 46, 99, 111, 109]⟩ (-1) ⟨#[47, 98]⟩ true ⟨#[113]⟩ true ⟨#[102]⟩ B1.out T1.out
  rw [ew, eg]
  clear ew eg B1 T1
  refine (aw_p2 _ T2.out).mono ?_
  rintro e w3 ⟨rfl, b3⟩
  have B3 := Lib.hid (below_step B2.out b3)
  have T3 := Lib.hid (T2.out.below b3)
  have K3 := Lib.hid (K2.out.below b3)
  clear b3 K2 B2 T2
  go_upto_region 3 with (fail)
  obtain ⟨w4, g4, ew, eg, _, B4, T4, b4⟩ := UK.make ⟨#[]⟩ ⟨#[]⟩ ⟨#[]⟩ ⟨#[]⟩ 0 ⟨#[]⟩ false ⟨#[]⟩ false ⟨#[]⟩ B3.out T3.out
  rw [ew, eg]
  have K4 := Lib.hid (K3.out.below b4)
  clear ew eg B3 T3 b4 K3
  obtain ⟨zc0, zc1, zc2, zc3, zc4, zc5, zc6, zc7, zc8, zc9⟩ := K4.out.cells
  go_wp2_with fail
  refine (aw_t1 _).mono ?_
  rintro e w5 ⟨rfl, b5⟩
  have K5 := Lib.hid (K4.out.below b5)
  have B5 := Lib.hid (below_step B4.out b5)
  clear zc0 zc1 zc2 zc3 zc4 zc5 zc6 zc7 zc8 zc9 K4 B4 T4 b5
  obtain ⟨zc0, zc1, zc2, zc3, zc4, zc5, zc6, zc7, zc8, zc9⟩ := K5.out.cells
  go_wp2_with fail
  refine (aw_r1 _).mono ?_
  rintro e w6 ⟨rfl, b6⟩
  have B6 := Lib.hid (below_step B5.out b6)
  go_wp2_with fail
  go_ret
  exact ⟨rfl, B6.out⟩
end Go.Proofs.YtcmcopieagpppaaGreatDoor.P
namespace Go.Proofs.YtcmcopieagpppaaGreatDoor.P
open Go.RowKit Go.Proofs.YtcmcopieagpppaaGreatDoorW.PrintWords Go.Proofs.YtcmcopieagpppaaGreatDoorW.PrintLast Go.Proofs.YtcmcopieagpppaaGreatDoorW.PrintMore
set_option linter.unusedVariables false
set_option linter.unusedSimpArgs false
theorem urlR_open (o : Option Web.U) : ∃ (x0 x1 x2 x3 : ByteArray) (x4 : Int) (x5 : ByteArray) (x6 : Bool) (x7 : ByteArray) (x8 : Bool) (x9 : ByteArray) (n : Int),
    urlR o = .tuple #[.agg #[.string x0, .string x1, .string x2, .string x3, .int .i64 x4, .string x5, .bool x6, .string x7, .bool x8, .string x9], .int .i64 n] ∧
    Hid ((o = none ∧ n = 8 ∧ x0 = ⟨#[]⟩ ∧ x1 = ⟨#[]⟩ ∧ x2 = ⟨#[]⟩ ∧ x3 = ⟨#[]⟩ ∧ x4 = 0 ∧ x5 = ⟨#[]⟩ ∧ x6 = false ∧ x7 = ⟨#[]⟩ ∧ x8 = false ∧ x9 = ⟨#[]⟩) ∨ (o = some (urlU x0 x1 x2 x3 x4 x5 x6 x7 x8 x9) ∧ n = 0)) ∧ (n = 8 ∨ n = 0) := by
  cases o with
  | none => exact ⟨_, _, _, _, _, _, _, _, _, _, _, rfl, Lib.hid (.inl ⟨rfl, rfl, rfl, rfl, rfl, rfl, rfl, rfl, rfl, rfl, rfl, rfl⟩), .inl rfl⟩
  | some u => exact ⟨ba u.scheme, ba u.user, ba u.pass, ba u.host, u.port, ba u.path, u.hasQ, ba u.query, u.hasF, ba u.frag, 0, rfl, Lib.hid (.inr ⟨rfl, rfl⟩), .inr rfl⟩
set_option maxRecDepth 100000 in
set_option maxHeartbeats 2000000 in
theorem urlParses_walk (s : ByteArray) (w : World) (hT : Tabs w) (hm : s.size ≤ 140737488351232) : Calls Tryz.prog 4 #[.string s] w fun e w' => e = .returned (.bool true) ∧ Below w.heap.size w w' := by
  have HT := Lib.hid hT
  have heq := url_eql
  clear hT
  by_cases c1 : 3000 < s.size
  · have c1' : decide (3000 < (s.size : Int)) = true := decide_eq_true (by omega)
    go_enter Tryz.func4, Tryz.ntmps4
    go_wp2_with fail
    refine (awake11 _ HT.out).mono ?_
    rintro e w1 ⟨rfl, b1⟩
    have B1 := Lib.hid b1
    clear b1
    go_wp2_with fail
    go_ret
    exact ⟨rfl, B1.out⟩
  · have c1' : decide (3000 < (s.size : Int)) = false := decide_eq_false (by omega)
    obtain ⟨x0, x1, x2, x3, x4, x5, x6, x7, x8, x9, n, eo, -, hn⟩ := urlR_open (Web.parse (bs s))
    have P1 := Lib.hid (fun W (h : Tabs W) => url_parse_walk s W h)
    have P2 := Lib.hid (fun W => ref_url_walk s W)
    rw [eo] at P1 P2
    clear eo
    have hn2 : IntKind.i64.wrap n = n := by rcases hn with rfl | rfl <;> decide
    have hnn : (n == n) = true := by simp
    go_enter Tryz.func4, Tryz.ntmps4
    go_wp2_with fail
    refine (P1.out _ HT.out).mono ?_
    rintro e w1 ⟨rfl, b1⟩
    have B1 := Lib.hid b1
    have T1 := Lib.hid (HT.out.below b1)
    clear b1 HT P1
    go_wp2_with fail
    obtain ⟨w2, g2, ew, eg, K2, B2, T2, -⟩ := UK.make x0 x1 x2 x3 x4 x5 x6 x7 x8 x9 B1.out T1.out
    rw [ew, eg]
    clear ew eg B1 T1
    refine (P2.out _).mono ?_
    rintro e w3 ⟨rfl, b3⟩
    have B3 := Lib.hid (below_step B2.out b3)
    have T3 := Lib.hid (T2.out.below b3)
    have K3 := Lib.hid (K2.out.below b3)
    clear b3 K2 B2 T2
    go_upto_region 5 with (fail)
    obtain ⟨w4, g4, ew, eg, J4, B4, T4, b4⟩ := UK.make x0 x1 x2 x3 x4 x5 x6 x7 x8 x9 B3.out T3.out
    rw [ew, eg]
    have K4 := Lib.hid (K3.out.below b4)
    clear ew eg B3 T3 b4 K3
    obtain ⟨zc0, zc1, zc2, zc3, zc4, zc5, zc6, zc7, zc8, zc9⟩ := K4.out.cells
    obtain ⟨zd0, zd1, zd2, zd3, zd4, zd5, zd6, zd7, zd8, zd9⟩ := J4.out.cells
    go_wp2_with fail
    refine (awake11 _ T4.out).mono ?_
    rintro e w5 ⟨rfl, b5⟩
    have B5 := Lib.hid (below_step B4.out b5)
    go_wp2_with fail
    go_ret
    exact ⟨rfl, B5.out⟩
end Go.Proofs.YtcmcopieagpppaaGreatDoor.P
