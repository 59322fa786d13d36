/- A part of the proof of the statement E: what is proved here of the program serves its last text; its conditions stand in the theorems. -/
import Derived.Test.YtcmcopieagpppaaGreatDoorKE1
import Derived.ArgAppend
import Derived.Below
import Derived.BigQuiet
import Derived.Deep.AppendLies
import Derived.Deep.CutBlock
import Derived.Deep.DeepCutAuto
import Derived.Deep.Draws
import Derived.Deep.LoopGhost
import Derived.Deep.OwnRows
import Derived.Deep.QuietTactic
import Derived.Deep.RegionHeld3
import Derived.Ground.Names2Prog
import Derived.KernelRfl
import Derived.Laws.BitsAllLaws
import Derived.Laws.BitsLemmas
import Derived.Laws.BytesArg
import Derived.Laws.IdiomCopy
import Derived.Laws.IdiomStrings
import Derived.Laws.MakeOwn
import Derived.Laws.OwnMore
import Derived.Laws.Rows
import Derived.Laws.Slices
import Derived.Laws.StructEq
import Derived.Lib.AppendStr
import Derived.Lib.ConvBytes
import Derived.Lib.Hide
import Derived.Lib.SplitLaws
import Derived.Lib.Strings
import Derived.Lib.ValidLaws
import Derived.Maps.AppendAt
import Derived.OrdersHeld
import Derived.Outline
import Derived.OwnWalk
import Derived.RowKit
import Derived.RowKit3
import Derived.Shelf.GgClosure.StringsIndexFunc
import Derived.Shelf.GgClosure.StringsTrimFunc
import Derived.Shelf.LaysM
import Derived.Shelf.Slices.Clone
import Derived.Shelf.Slices.Turned
import Derived.Shelf.Small.Strs
import Derived.Shelf.Small.Utf8
import Derived.Shelf.Small.Wraps
import Derived.Shelf.Strings.Builder1
import Derived.Shelf.Strings.Builder2
import Derived.Shelf.Strings.Count
import Derived.Shelf.Strings.Cut
import Derived.Shelf.Strings.LastIndex
import Derived.Shelf.Strings.OnBuilder
import Derived.Shelf.Strings.Prefix
import Derived.Shelf.Strings.Replace
import Derived.Shelf.Strings.Search1
import Derived.Shelf.Strings.Search2
import Derived.Shelf.Strings.Search3
import Derived.Shelf.Strings.Shaped
import Derived.Shelf.Strings.Split
import Derived.Shelf.Strings.SplitCore
import Derived.Shelf.Strings.SplitShaped
import Derived.Shelf.Unicode.DecodeAny
import Derived.Shelf.Unicode.DecodeLast
import Derived.Shelf.Unicode.DecodeSlow
import Derived.Shelf.Unicode.ValidAny
import Derived.Tactics
import Derived.Test.YtcmcopieagpppaaGreatDoorProg
import Derived.WalkKit
import Derived.WideLaws
namespace Go.Proofs.YtcmcopieagpppaaGreatDoor.Web
def lowerB (c : UInt8) : UInt8 := if 65 ≤ c ∧ c ≤ 90 then c + 32 else c
def lowerL (l : List UInt8) : List UInt8 := l.map lowerB
theorem lowerB_big {c : UInt8} (h1 : 65 ≤ c.toNat) (h2 : c.toNat ≤ 90) : (lowerB c).toNat = c.toNat + 32 := by
  unfold lowerB
  rw [if_pos ⟨by rw [UInt8.le_iff_toNat_le]; exact h1, by rw [UInt8.le_iff_toNat_le]; exact h2⟩, UInt8.toNat_add]
  show (c.toNat + 32) % 256 = _
  omega
theorem lowerB_small {c : UInt8} (h : ¬ (65 ≤ c.toNat ∧ c.toNat ≤ 90)) : lowerB c = c := by
  unfold lowerB
  rw [if_neg]
  rintro ⟨h1, h2⟩
  rw [UInt8.le_iff_toNat_le] at h1 h2
  exact h ⟨h1, h2⟩
theorem lowerL_length (l : List UInt8) : (lowerL l).length = l.length := by simp [lowerL]
end Go.Proofs.YtcmcopieagpppaaGreatDoor.Web
namespace Go.Proofs.YtcmcopieagpppaaGreatDoor.Web
abbrev Bs := List UInt8
def extra : Nat → Option Bs
  | 1 => some [34, 60, 62, 96]
  | 2 => some [34, 35, 39, 60, 62]
  | 3 => some [34, 35, 60, 62, 63, 94, 96, 123, 125]
  | 4 => some [34, 35, 60, 62, 63, 94, 96, 123, 125, 47, 58, 59, 61, 64, 91, 92, 93, 124]
  | _ => none
def inSet (k : Nat) (c : UInt8) : Bool := match extra k with
  | none => false
  | some l => decide (c.toNat < 33) || decide (126 < c.toNat) || l.contains c
def hexU (n : Nat) : UInt8 := if n < 10 then UInt8.ofNat (48 + n) else UInt8.ofNat (55 + n)
def encB (k : Nat) (c : UInt8) : Bs := if inSet k c then [37, hexU (c.toNat / 16), hexU (c.toNat % 16)] else [c]
def enc (k : Nat) (l : Bs) : Bs := l.flatMap (encB k)
def hexV (c : UInt8) : Option Nat :=
  if 48 ≤ c.toNat ∧ c.toNat ≤ 57 then some (c.toNat - 48) else if 97 ≤ c.toNat ∧ c.toNat ≤ 102 then some (c.toNat - 87) else if 65 ≤ c.toNat ∧ c.toNat ≤ 70 then some (c.toNat - 55) else none
def dec : Bs → Bs
  | [] => []
  | c :: t => match t with
    | a :: b :: t' => if c = 37 then (match hexV a, hexV b with
        | some x, some y => UInt8.ofNat (16 * x + y) :: dec t'
        | _, _ => c :: dec (a :: b :: t')) else c :: dec (a :: b :: t')
    | t => c :: dec t
  termination_by l => l.length
  decreasing_by all_goals (simp only [List.length_cons]; omega)
def splitOn (c : UInt8) : Bs → List Bs
  | [] => [[]]
  | b :: t => if b = c then [] :: splitOn c t else match splitOn c t with
    | [] => [[b]]
    | h :: r => (b :: h) :: r
def partsOf (s : Bs) : List Bs := let l := splitOn 46 s; if 1 < l.length ∧ l.getLast? = some [] then l.dropLast else l
def forbidden (c : UInt8) : Bool := decide (c.toNat ≤ 32) || decide (127 ≤ c.toNat) || [35, 37, 47, 58, 60, 62, 63, 64, 91, 92, 93, 94, 124].contains c
def allDig (base : Nat) (s : Bs) : Bool := s.all fun c => match hexV c with
  | some v => decide (v < base)
  | none => false
def hexTail : Bs → Option Bs
  | a :: b :: t => if a = 48 ∧ (b = 120 ∨ b = 88) then some t else none
  | _ => none
def numeric (s : Bs) : Bool := match hexTail s with
  | some t => allDig 16 t
  | none => !s.isEmpty && allDig 10 s
def value (base : Nat) (s : Bs) : Nat := s.foldl (fun n c => base * n + (hexV c).getD 0) 0
def part (s : Bs) : Option Nat :=
  let (base, rest) := match hexTail s with
    | some t => (16, t)
    | none => match s with
      | 48 :: b :: t => (8, b :: t)
      | _ => (10, s)
  if s = [] then none else if !allDig base rest then none else if value base rest < 4294967296 then some (value base rest) else none
def numberFrom : Nat → Nat → List Bs → Option Nat
  | _, _, [] => none
  | ahead, left, p :: l => match part p with
    | none => none
    | some n => match l with
      | [] => if n < 2 ^ (8 * left) then some (ahead + n) else none
      | q :: r => if 255 < n then none else numberFrom (ahead + n * 2 ^ (8 * (left - 1))) (left - 1) (q :: r)
def number (s : Bs) : Option Nat := if 4 < (partsOf s).length then none else numberFrom 0 4 (partsOf s)
def decimal (n : Nat) : Bs := if n < 10 then [UInt8.ofNat (48 + n)] else decimal (n / 10) ++ [UInt8.ofNat (48 + n % 10)]
  termination_by n
def addrText (a : Nat) : Bs := decimal (a / 16777216) ++ [46] ++ decimal (a / 65536 % 256) ++ [46] ++ decimal (a / 256 % 256) ++ [46] ++ decimal (a % 256)
def host (s : Bs) : Option Bs :=
  let d := lowerL (dec s)
  if d = [] then none else if d.any forbidden then none else if numeric ((partsOf d).getLast?.getD []) then (number d).map addrText else some d
def port? (s : Bs) : Option Nat :=
  if s = [104, 116, 116, 112] ∨ s = [119, 115] then some 80 else if s = [104, 116, 116, 112, 115] ∨ s = [119, 115, 115] then some 443 else if s = [102, 116, 112] then some 21 else none
structure U where
  scheme : Bs
  user : Bs
  pass : Bs
  host : Bs
  port : Int
  path : Bs
  hasQ : Bool
  query : Bs
  hasF : Bool
  frag : Bs
deriving DecidableEq
def blank (c : UInt8) : Bool := decide (c.toNat ≤ 32)
def tabbed (c : UInt8) : Bool := c == 9 || c == 10 || c == 13
def trim (l : Bs) : Bs := ((l.dropWhile blank).reverse.dropWhile blank).reverse
def clean (l : Bs) : Bs := (trim l).filter (fun c => !tabbed c)
def slash (c : UInt8) : Bool := c == 47 || c == 92
def ends (c : UInt8) : Bool := c == 47 || c == 92 || c == 63 || c == 35
def brk (p : UInt8 → Bool) (l : Bs) : Bs × Bs := (l.takeWhile fun c => !p c, l.dropWhile fun c => !p c)
def portOf (d : Nat) (s : Bs) : Option Int :=
  if s = [] then some (-1) else if !allDig 10 s then none else if 65535 < value 10 s then none else if value 10 s = d then some (-1) else some (value 10 s)
def userHost (a : Bs) : Option Bs × Bs := if a.contains 64 then (some ((a.reverse.dropWhile (· != 64)).drop 1).reverse, (a.reverse.takeWhile (· != 64)).reverse) else (none, a)
def auth (d : Nat) (a : Bs) : Option (Bs × Bs × Bs × Int) :=
  let (ui, hp) := userHost a
  let (h, p) := brk (· == 58) hp
  match host h, portOf d (p.drop 1) with
  | some h, some p => some (match ui with
    | none => ([], [], h, p)
    | some u => (enc 4 (brk (· == 58) u).1, enc 4 ((brk (· == 58) u).2.drop 1), h, p))
  | _, _ => none
def dots (s : Bs) : Nat :=
  let t := lowerL s
  if t = [46] ∨ t = [37, 50, 101] then 1 else if t = [46, 46] ∨ t = [46, 37, 50, 101] ∨ t = [37, 50, 101, 46] ∨ t = [37, 50, 101, 37, 50, 101] then 2 else 0
def splitBy (p : UInt8 → Bool) : Bs → List Bs
  | [] => [[]]
  | b :: t => if p b then [] :: splitBy p t else match splitBy p t with
    | [] => [[b]]
    | h :: r => (b :: h) :: r
def seg (acc : List Bs) (s : Bs) (last : Bool) : List Bs :=
  let acc := if dots s = 2 then acc.dropLast else acc
  if dots s = 0 then acc ++ [enc 3 s] else if last then acc ++ [[]] else acc
def segs : List Bs → List Bs → List Bs
  | acc, [] => acc
  | acc, [s] => seg acc s true
  | acc, s :: t => segs (seg acc s false) t
def segsOf (p : Bs) : List Bs := if p = [] then [] else segs [] (splitBy slash p).tail
def joinSegs (l : List Bs) : Bs := if l = [] then [47] else l.flatMap fun s => 47 :: s
def path (p : Bs) : Bs := joinSegs (segsOf p)
def url (l : Bs) : Option U :=
  if !Lib.validD l then none else
  let (s, r) := brk (· == 58) (clean l)
  match r with
  | [] => none
  | _ :: r => match port? (lowerL s) with
    | none => none
    | some d =>
      let (a, r) := brk ends (r.dropWhile slash)
      match auth d a with
      | none => none
      | some (user, pass, h, p) =>
        let (pa, r) := brk (fun c => c == 63 || c == 35) r
        let (q, f) := brk (· == 35) r
        some { scheme := lowerL s, user := user, pass := pass, host := h, port := p, path := path pa, hasQ := !q.isEmpty, query := enc 2 (q.drop 1), hasF := !f.isEmpty, frag := enc 1 (f.drop 1) }
def parse (l : Bs) : Option U := if 65536 < l.length then none else url l
def portText (p : Int) : Bs := if p < 0 then 45 :: decimal (-p).toNat else decimal p.toNat
def text (u : U) : Bs :=
  u.scheme ++ [58, 47, 47] ++ (if u.user = [] ∧ u.pass = [] then [] else u.user ++ (if u.pass = [] then [] else 58 :: u.pass) ++ [64]) ++ u.host ++
    (if u.port = -1 then [] else 58 :: portText u.port) ++ u.path ++ (if u.hasQ then 63 :: u.query else []) ++ (if u.hasF then 35 :: u.frag else [])
end Go.Proofs.YtcmcopieagpppaaGreatDoor.Web
namespace Go.Proofs
open Go.Shelf
def Tryz.lays156_ren : Go.Shelf.Ren := ⟨fun | 156 => 94 | 165 => 133 | 166 => 134 | 169 => 135 | 240 => 173 | 241 => 174 | 276 => 201 | 277 => 202 | n => n, fun | 31 => 22 | 9 => 9 | 3 => 3 | 4 => 4 | 0 => 0 | 20 => 20 | 72 => 152 | 76 => 156 | 70 => 150 | 37 => 46 | 75 => 155 | 127 => 195 | 164 => 213 | 5 => 5 | 80 => 158 | n => n, fun | n => n⟩
theorem Tryz.lays156 : Go.Proofs.Lays.n156 Tryz.prog Tryz.lays156_ren := {
  mixed := by kernel_rfl
  f156 := Tryz.func94.trans (congrArg some (by kernel_rfl))
  f165 := Tryz.func133.trans (congrArg some (by kernel_rfl))
  f166 := Tryz.func134.trans (congrArg some (by kernel_rfl))
  f169 := Tryz.func135.trans (congrArg some (by kernel_rfl))
  f240 := Tryz.func173.trans (congrArg some (by kernel_rfl))
  f241 := Tryz.func174.trans (congrArg some (by kernel_rfl))
  f276 := Tryz.func201.trans (congrArg some (by kernel_rfl))
  f277 := Tryz.func202.trans (congrArg some (by kernel_rfl))
  t0 := Tryz.underlying0
  a0 := Tryz.isAgg0
  z0 := Tryz.sizeOf0
  v0 := Tryz.zeroValue0
  t3 := Tryz.underlying3
  a3 := Tryz.isAgg3
  z3 := Tryz.sizeOf3
  v3 := Tryz.zeroValue3
  t4 := Tryz.underlying4
  a4 := Tryz.isAgg4
  z4 := Tryz.sizeOf4
  v4 := Tryz.zeroValue4
  t9 := Tryz.underlying9
  a9 := Tryz.isAgg9
  z9 := Tryz.sizeOf9
  v9 := Tryz.zeroValue9
  t20 := Tryz.underlying20
  a20 := Tryz.isAgg20
  z20 := Tryz.sizeOf20
  v20 := Tryz.zeroValue20
  t31 := Tryz.underlying22
  a31 := Tryz.isAgg22
  z31 := Tryz.sizeOf22
  v31 := Tryz.zeroValue22
  t37 := Tryz.underlying46
  a37 := Tryz.isAgg46
  z37 := Tryz.sizeOf46
  v37 := Tryz.zeroValue46
  t70 := Tryz.underlying150
  a70 := Tryz.isAgg150
  z70 := Tryz.sizeOf150
  v70 := Tryz.zeroValue150
  t72 := Tryz.underlying152
  a72 := Tryz.isAgg152
  z72 := Tryz.sizeOf152
  v72 := Tryz.zeroValue152
  t75 := Tryz.underlying155
  a75 := Tryz.isAgg155
  z75 := Tryz.sizeOf155
  v75 := Tryz.zeroValue155
  t76 := Tryz.underlying156
  a76 := Tryz.isAgg156
  z76 := Tryz.sizeOf156
  v76 := Tryz.zeroValue156
  t127 := Tryz.underlying195
  a127 := Tryz.isAgg195
  z127 := Tryz.sizeOf195
  v127 := Tryz.zeroValue195
  t164 := Tryz.underlying213
  a164 := Tryz.isAgg213
  z164 := Tryz.sizeOf213
  v164 := Tryz.zeroValue213 }
theorem Tryz.Builder_Extra_156 : Builder.Extra Tryz.prog Tryz.lays156_ren := {
  sizeBuilder := by kernel_rfl
  liesBuilder := by kernel_rfl
  t5 := Tryz.underlying5
  a5 := Tryz.isAgg5
  z5 := Tryz.sizeOf5
  v5 := Tryz.zeroValue5
  infoByte := by kernel_rfl
  cellsByte := by kernel_rfl
  sizeByte := by kernel_rfl
  neB5 := by decide }
open Go.RowKit in
theorem Tryz.strings_Join_none (a : Option Addr) (c : Nat) (sep : ByteArray) (w : World) :
    Calls Tryz.prog 94 #[.slice a 0 c, .string sep] w fun e w' => e = .returned (.string ⟨#[]⟩) ∧ w' = w := Any.strings_Join_none Tryz.lays156 Tryz.Builder_Extra_156 a c sep w
open Go.RowKit in
theorem Tryz.strings_Join (bk o c : Nat) (xs : List ByteArray) (sep : ByteArray) (w : World) (hcells : ∀ (j : Nat) x, xs[j]? = some x → w.cell? ⟨bk, o + j, none⟩ = some (.string x)) (hbk : bk < w.heap.size) (hN : xs.length ≤ 140737488355328) (hcap : xs.length ≤ c) (hlen : (Lib.join (xs.map (·.data.toList)) sep.data.toList).length ≤ 140737488355328) :
    Calls Tryz.prog 94 #[.slice (some ⟨bk, o, none⟩) xs.length c, .string sep] w fun e w' => e = .returned (.string ⟨(Lib.join (xs.map (·.data.toList)) sep.data.toList).toArray⟩) ∧ Below w.heap.size w w' := Any.strings_Join Tryz.lays156 Tryz.Builder_Extra_156 bk o c xs sep w hcells hbk hN hcap hlen
def Tryz.lays137_ren : Go.Shelf.Ren := ⟨fun | 137 => 89 | 217 => 130 | 266 => 171 | n => n, fun | 9 => 9 | 5 => 5 | 3 => 3 | n => n, fun | n => n⟩
theorem Tryz.lays137 : Go.Proofs.Lays.n137 Tryz.prog Tryz.lays137_ren := {
  mixed := by kernel_rfl
  f137 := Tryz.func89.trans (congrArg some (by kernel_rfl))
  f217 := Tryz.func130.trans (congrArg some (by kernel_rfl))
  f266 := Tryz.func171.trans (congrArg some (by kernel_rfl))
  t3 := Tryz.underlying3
  a3 := Tryz.isAgg3
  z3 := Tryz.sizeOf3
  v3 := Tryz.zeroValue3
  t5 := Tryz.underlying5
  a5 := Tryz.isAgg5
  z5 := Tryz.sizeOf5
  v5 := Tryz.zeroValue5
  t9 := Tryz.underlying9
  a9 := Tryz.isAgg9
  z9 := Tryz.sizeOf9
  v9 := Tryz.zeroValue9 }
open Go.RowKit in
theorem Tryz.strings_IndexByte (s : ByteArray) (c : Int) (w : World) :
    Calls Tryz.prog 89 #[.string s, .int .u8 c] w fun e w' => e = .returned (.int .i64 (Lib.indexByte s.data.toList c.toNat.toUInt8)) ∧ w' = w := Any.strings_IndexByte Tryz.lays137 s c w
def Tryz.lays219_ren : Go.Shelf.Ren := ⟨fun | 219 => 144 | 217 => 130 | 225 => 177 | 224 => 178 | 267 => 179 | 266 => 171 | 314 => 203 | n => n, fun | 9 => 9 | 3 => 3 | 4 => 4 | 5 => 5 | 46 => 89 | 146 => 216 | 51 => 86 | n => n, fun | 1 => 2 | n => n⟩
theorem Tryz.lays219 : Go.Proofs.Lays.n219 Tryz.prog Tryz.lays219_ren := {
  mixed := by kernel_rfl
  f217 := Tryz.func130.trans (congrArg some (by kernel_rfl))
  f219 := Tryz.func144.trans (congrArg some (by kernel_rfl))
  f224 := Tryz.func178.trans (congrArg some (by kernel_rfl))
  f225 := Tryz.func177.trans (congrArg some (by kernel_rfl))
  f266 := Tryz.func171.trans (congrArg some (by kernel_rfl))
  f267 := Tryz.func179.trans (congrArg some (by kernel_rfl))
  f314 := Tryz.func203.trans (congrArg some (by kernel_rfl))
  t3 := Tryz.underlying3
  a3 := Tryz.isAgg3
  z3 := Tryz.sizeOf3
  v3 := Tryz.zeroValue3
  t4 := Tryz.underlying4
  a4 := Tryz.isAgg4
  z4 := Tryz.sizeOf4
  v4 := Tryz.zeroValue4
  t5 := Tryz.underlying5
  a5 := Tryz.isAgg5
  z5 := Tryz.sizeOf5
  v5 := Tryz.zeroValue5
  t9 := Tryz.underlying9
  a9 := Tryz.isAgg9
  z9 := Tryz.sizeOf9
  v9 := Tryz.zeroValue9
  t46 := Tryz.underlying89
  a46 := Tryz.isAgg89
  z46 := Tryz.sizeOf89
  v46 := Tryz.zeroValue89
  t51 := Tryz.underlying86
  a51 := Tryz.isAgg86
  z51 := Tryz.sizeOf86
  v51 := Tryz.zeroValue86
  t146 := Tryz.underlying216
  a146 := Tryz.isAgg216
  z146 := Tryz.sizeOf216
  v146 := Tryz.zeroValue216
  g1 := by kernel_rfl }
open Go.RowKit Go.Lib in
theorem Tryz.stringslite_Index_one (s : ByteArray) (c : UInt8) (w : World) :
    Calls Tryz.prog 144 #[.string s, .string ⟨#[c]⟩] w fun e w' => e = .returned (.int .i64 (Lib.indexByte s.data.toList c)) ∧ w' = w := Any.stringslite_Index_one Tryz.lays219 s c w
def Tryz.lays143_ren : Go.Shelf.Ren := ⟨fun | 143 => 200 | 219 => 144 | 217 => 130 | 225 => 177 | 224 => 178 | 267 => 179 | 266 => 171 | 314 => 203 | n => n, fun | 9 => 9 | 3 => 3 | 4 => 4 | 5 => 5 | 46 => 89 | 146 => 216 | 51 => 86 | n => n, fun | 1 => 2 | n => n⟩
theorem Tryz.lays143 : Go.Proofs.Lays.n143 Tryz.prog Tryz.lays143_ren := {
  mixed := by kernel_rfl
  f143 := Tryz.func200.trans (congrArg some (by kernel_rfl))
  f217 := Tryz.func130.trans (congrArg some (by kernel_rfl))
  f219 := Tryz.func144.trans (congrArg some (by kernel_rfl))
  f224 := Tryz.func178.trans (congrArg some (by kernel_rfl))
  f225 := Tryz.func177.trans (congrArg some (by kernel_rfl))
  f266 := Tryz.func171.trans (congrArg some (by kernel_rfl))
  f267 := Tryz.func179.trans (congrArg some (by kernel_rfl))
  f314 := Tryz.func203.trans (congrArg some (by kernel_rfl))
  t3 := Tryz.underlying3
  a3 := Tryz.isAgg3
  z3 := Tryz.sizeOf3
  v3 := Tryz.zeroValue3
  t4 := Tryz.underlying4
  a4 := Tryz.isAgg4
  z4 := Tryz.sizeOf4
  v4 := Tryz.zeroValue4
  t5 := Tryz.underlying5
  a5 := Tryz.isAgg5
  z5 := Tryz.sizeOf5
  v5 := Tryz.zeroValue5
  t9 := Tryz.underlying9
  a9 := Tryz.isAgg9
  z9 := Tryz.sizeOf9
  v9 := Tryz.zeroValue9
  t46 := Tryz.underlying89
  a46 := Tryz.isAgg89
  z46 := Tryz.sizeOf89
  v46 := Tryz.zeroValue89
  t51 := Tryz.underlying86
  a51 := Tryz.isAgg86
  z51 := Tryz.sizeOf86
  v51 := Tryz.zeroValue86
  t146 := Tryz.underlying216
  a146 := Tryz.isAgg216
  z146 := Tryz.sizeOf216
  v146 := Tryz.zeroValue216
  g1 := by kernel_rfl }
open Go.RowKit Go.Lib in
theorem Tryz.strings_Index_one (s : ByteArray) (c : UInt8) (w : World) :
    Calls Tryz.prog 200 #[.string s, .string ⟨#[c]⟩] w fun e w' => e = .returned (.int .i64 (Lib.indexByte s.data.toList c)) ∧ w' = w := Any.strings_Index_one Tryz.lays143 s c w
def Tryz.lays138_ren : Go.Shelf.Ren := ⟨fun | 138 => 199 | 195 => 216 | 218 => 217 | 143 => 200 | 219 => 144 | 217 => 130 | 225 => 177 | 224 => 178 | 267 => 179 | 266 => 171 | 314 => 203 | n => n, fun | 9 => 9 | 3 => 3 | 4 => 4 | 5 => 5 | 0 => 0 | 46 => 89 | 146 => 216 | 51 => 86 | n => n, fun | 1 => 2 | n => n⟩
theorem Tryz.lays138 : Go.Proofs.Lays.n138 Tryz.prog Tryz.lays138_ren := {
  mixed := by kernel_rfl
  f138 := Tryz.func199.trans (congrArg some (by kernel_rfl))
  f143 := Tryz.func200.trans (congrArg some (by kernel_rfl))
  f195 := Tryz.func216.trans (congrArg some (by kernel_rfl))
  f217 := Tryz.func130.trans (congrArg some (by kernel_rfl))
  f218 := Tryz.func217.trans (congrArg some (by kernel_rfl))
  f219 := Tryz.func144.trans (congrArg some (by kernel_rfl))
  f224 := Tryz.func178.trans (congrArg some (by kernel_rfl))
  f225 := Tryz.func177.trans (congrArg some (by kernel_rfl))
  f266 := Tryz.func171.trans (congrArg some (by kernel_rfl))
  f267 := Tryz.func179.trans (congrArg some (by kernel_rfl))
  f314 := Tryz.func203.trans (congrArg some (by kernel_rfl))
  t0 := Tryz.underlying0
  a0 := Tryz.isAgg0
  z0 := Tryz.sizeOf0
  v0 := Tryz.zeroValue0
  t3 := Tryz.underlying3
  a3 := Tryz.isAgg3
  z3 := Tryz.sizeOf3
  v3 := Tryz.zeroValue3
  t4 := Tryz.underlying4
  a4 := Tryz.isAgg4
  z4 := Tryz.sizeOf4
  v4 := Tryz.zeroValue4
  t5 := Tryz.underlying5
  a5 := Tryz.isAgg5
  z5 := Tryz.sizeOf5
  v5 := Tryz.zeroValue5
  t9 := Tryz.underlying9
  a9 := Tryz.isAgg9
  z9 := Tryz.sizeOf9
  v9 := Tryz.zeroValue9
  t46 := Tryz.underlying89
  a46 := Tryz.isAgg89
  z46 := Tryz.sizeOf89
  v46 := Tryz.zeroValue89
  t51 := Tryz.underlying86
  a51 := Tryz.isAgg86
  z51 := Tryz.sizeOf86
  v51 := Tryz.zeroValue86
  t146 := Tryz.underlying216
  a146 := Tryz.isAgg216
  z146 := Tryz.sizeOf216
  v146 := Tryz.zeroValue216
  g1 := by kernel_rfl }
open Go.RowKit Go.Lib in
theorem Tryz.strings_Count_one (s : ByteArray) (c : UInt8) (w : World) :
    Calls Tryz.prog 199 #[.string s, .string ⟨#[c]⟩] w fun e w' => e = .returned (.int .i64 (Lib.countByte s.data.toList c)) ∧ w' = w := Any.strings_Count_one Tryz.lays138 s c w
def Tryz.laysM219_ren : Go.Shelf.Ren := ⟨fun | 219 => 144 | 217 => 130 | 225 => 177 | 224 => 178 | 267 => 179 | 266 => 171 | 314 => 203 | n => n, fun | 9 => 9 | 3 => 3 | 4 => 4 | 5 => 5 | 46 => 89 | 146 => 216 | 51 => 86 | n => n, fun | 1 => 2 | n => n⟩
theorem Tryz.laysM219 : Go.Proofs.LaysM.n219 Tryz.prog Tryz.laysM219_ren := {
  mixed := by kernel_rfl
  f217 := Tryz.func130.trans (congrArg some (by kernel_rfl))
  f219 := Tryz.func144.trans (congrArg some (by kernel_rfl))
  f224 := Tryz.func178.trans (congrArg some (by kernel_rfl))
  f225 := Tryz.func177.trans (congrArg some (by kernel_rfl))
  f266 := Tryz.func171.trans (congrArg some (by kernel_rfl))
  f267 := Tryz.func179.trans (congrArg some (by kernel_rfl))
  f314 := Tryz.func203.trans (congrArg some (by kernel_rfl))
  t3 := Tryz.underlying3
  a3 := Tryz.isAgg3
  z3 := Tryz.sizeOf3
  v3 := Tryz.zeroValue3
  t4 := Tryz.underlying4
  a4 := Tryz.isAgg4
  z4 := Tryz.sizeOf4
  v4 := Tryz.zeroValue4
  t5 := Tryz.underlying5
  a5 := Tryz.isAgg5
  z5 := Tryz.sizeOf5
  v5 := Tryz.zeroValue5
  t9 := Tryz.underlying9
  a9 := Tryz.isAgg9
  z9 := Tryz.sizeOf9
  v9 := Tryz.zeroValue9
  t46 := Tryz.underlying89
  a46 := Tryz.isAgg89
  z46 := Tryz.sizeOf89
  v46 := Tryz.zeroValue89
  t51 := Tryz.underlying86
  a51 := Tryz.isAgg86
  z51 := Tryz.sizeOf86
  v51 := Tryz.zeroValue86
  t146 := Tryz.underlying216
  a146 := Tryz.isAgg216
  z146 := Tryz.sizeOf216
  v146 := Tryz.zeroValue216
  g1 := by kernel_rfl
  i3 := by kernel_rfl
  i4 := by kernel_rfl
  i5 := by kernel_rfl
  i9 := by kernel_rfl
  i46 := by kernel_rfl
  i51 := by kernel_rfl
  i146 := by kernel_rfl
  m1 := by kernel_rfl
  s1_3 := fun w h => Go.Proofs.cell_of_shapedOpen_int (zero := #[.int .i64 0]) (t := 3) h (of_decide_eq_true (by kernel_rfl)) (by kernel_rfl) rfl (by kernel_rfl) (by kernel_rfl) Tryz.underlying3 }
def Tryz.lays149_ren : Go.Shelf.Ren := ⟨fun | 149 => 91 | 222 => 131 | n => n, fun | 9 => 9 | 5 => 5 | 3 => 3 | 4 => 4 | n => n, fun | n => n⟩
theorem Tryz.lays149 : Go.Proofs.Lays.n149 Tryz.prog Tryz.lays149_ren := {
  mixed := by kernel_rfl
  f149 := Tryz.func91.trans (congrArg some (by kernel_rfl))
  f222 := Tryz.func131.trans (congrArg some (by kernel_rfl))
  t3 := Tryz.underlying3
  a3 := Tryz.isAgg3
  z3 := Tryz.sizeOf3
  v3 := Tryz.zeroValue3
  t4 := Tryz.underlying4
  a4 := Tryz.isAgg4
  z4 := Tryz.sizeOf4
  v4 := Tryz.zeroValue4
  t5 := Tryz.underlying5
  a5 := Tryz.isAgg5
  z5 := Tryz.sizeOf5
  v5 := Tryz.zeroValue5
  t9 := Tryz.underlying9
  a9 := Tryz.isAgg9
  z9 := Tryz.sizeOf9
  v9 := Tryz.zeroValue9 }
open Go.RowKit Go.Lib in
theorem Tryz.strings_LastIndexByte (s : ByteArray) (c : Int) (hs : s.size < 4611686018427387904) (w : World) :
    Calls Tryz.prog 91 #[.string s, .int .u8 c] w fun e w' => e = .returned (.int .i64 (Lib.lastIndexByte s c)) ∧ w' = w := Any.strings_LastIndexByte Tryz.lays149 s c hs w
def Tryz.lays237_ren : Go.Shelf.Ren := ⟨fun | 237 => 51 | 272 => 85 | 238 => 84 | 315 => 126 | 273 => 124 | 197 => 125 | 271 => 163 | 260 => 164 | 120 => 192 | n => n, fun | 9 => 9 | 40 => 68 | 4 => 4 | 3 => 3 | 105 => 145 | 21 => 21 | 0 => 0 | 5 => 5 | 119 => 140 | 46 => 89 | 139 => 143 | 138 => 142 | n => n, fun | 3 => 0 | 4 => 1 | n => n⟩
theorem Tryz.lays237 : Go.Proofs.Lays.n237 Tryz.prog Tryz.lays237_ren := {
  mixed := by kernel_rfl
  f120 := Tryz.func192.trans (congrArg some (by kernel_rfl))
  f197 := Tryz.func125.trans (congrArg some (by kernel_rfl))
  f237 := Tryz.func51.trans (congrArg some (by kernel_rfl))
  f238 := Tryz.func84.trans (congrArg some (by kernel_rfl))
  f260 := Tryz.func164.trans (congrArg some (by kernel_rfl))
  f271 := Tryz.func163.trans (congrArg some (by kernel_rfl))
  f272 := Tryz.func85.trans (congrArg some (by kernel_rfl))
  f273 := Tryz.func124.trans (congrArg some (by kernel_rfl))
  f315 := Tryz.func126.trans (congrArg some (by kernel_rfl))
  t0 := Tryz.underlying0
  a0 := Tryz.isAgg0
  z0 := Tryz.sizeOf0
  v0 := Tryz.zeroValue0
  t3 := Tryz.underlying3
  a3 := Tryz.isAgg3
  z3 := Tryz.sizeOf3
  v3 := Tryz.zeroValue3
  t4 := Tryz.underlying4
  a4 := Tryz.isAgg4
  z4 := Tryz.sizeOf4
  v4 := Tryz.zeroValue4
  t5 := Tryz.underlying5
  a5 := Tryz.isAgg5
  z5 := Tryz.sizeOf5
  v5 := Tryz.zeroValue5
  t9 := Tryz.underlying9
  a9 := Tryz.isAgg9
  z9 := Tryz.sizeOf9
  v9 := Tryz.zeroValue9
  t21 := Tryz.underlying21
  a21 := Tryz.isAgg21
  z21 := Tryz.sizeOf21
  v21 := Tryz.zeroValue21
  t40 := Tryz.underlying68
  a40 := Tryz.isAgg68
  z40 := Tryz.sizeOf68
  v40 := Tryz.zeroValue68
  t46 := Tryz.underlying89
  a46 := Tryz.isAgg89
  z46 := Tryz.sizeOf89
  v46 := Tryz.zeroValue89
  t105 := Tryz.underlying145
  a105 := Tryz.isAgg145
  z105 := Tryz.sizeOf145
  v105 := Tryz.zeroValue145
  t119 := Tryz.underlying140
  a119 := Tryz.isAgg140
  z119 := Tryz.sizeOf140
  t138 := Tryz.underlying142
  a138 := Tryz.isAgg142
  z138 := Tryz.sizeOf142
  v138 := Tryz.zeroValue142
  t139 := Tryz.underlying143
  a139 := Tryz.isAgg143
  z139 := Tryz.sizeOf143
  v139 := Tryz.zeroValue143
  g3 := by kernel_rfl
  g4 := by kernel_rfl }
open Go.RowKit Go.Lib in
theorem Tryz.strings_TrimFunc (g : Nat) (lb : Array Value) (eg : ∀ args w, (callFunc g args).run Tryz.prog w = .ok (.enter g args) w) (p : Nat → Bool) (s : ByteArray) (w : World) (hs : s.size ≤ 9223372036854775807) (hT : Lib.Utf8Tabs 0 1 w) (hp : PredAt Tryz.prog g lb encR p w) :
    Calls Tryz.prog 51 #[.string s, .func (.func g) #[] lb] w fun e w' => e = .returned (.string (Lib.trimF p s)) ∧ Below w.heap.size w w' := Any.strings_TrimFunc Tryz.lays237 g lb eg p s w hs hT hp
def Tryz.lays221_ren : Go.Shelf.Ren := ⟨fun | 221 => 181 | 268 => 204 | 138 => 199 | 143 => 200 | 195 => 216 | 197 => 125 | 218 => 217 | 219 => 144 | 260 => 164 | 217 => 130 | 225 => 177 | 224 => 178 | 267 => 179 | 266 => 171 | 314 => 203 | n => n, fun | 9 => 9 | 3 => 3 | 31 => 22 | 4 => 4 | 0 => 0 | 105 => 145 | 21 => 21 | 5 => 5 | 46 => 89 | 119 => 140 | 139 => 143 | 138 => 142 | 146 => 216 | 51 => 86 | n => n, fun | 1 => 2 | 3 => 0 | 4 => 1 | n => n⟩
theorem Tryz.lays221 : Go.Proofs.Lays.n221 Tryz.prog Tryz.lays221_ren := {
  mixed := by kernel_rfl
  f138 := Tryz.func199.trans (congrArg some (by kernel_rfl))
  f143 := Tryz.func200.trans (congrArg some (by kernel_rfl))
  f195 := Tryz.func216.trans (congrArg some (by kernel_rfl))
  f197 := Tryz.func125.trans (congrArg some (by kernel_rfl))
  f217 := Tryz.func130.trans (congrArg some (by kernel_rfl))
  f218 := Tryz.func217.trans (congrArg some (by kernel_rfl))
  f219 := Tryz.func144.trans (congrArg some (by kernel_rfl))
  f221 := Tryz.func181.trans (congrArg some (by kernel_rfl))
  f224 := Tryz.func178.trans (congrArg some (by kernel_rfl))
  f225 := Tryz.func177.trans (congrArg some (by kernel_rfl))
  f260 := Tryz.func164.trans (congrArg some (by kernel_rfl))
  f266 := Tryz.func171.trans (congrArg some (by kernel_rfl))
  f267 := Tryz.func179.trans (congrArg some (by kernel_rfl))
  f268 := Tryz.func204.trans (congrArg some (by kernel_rfl))
  f314 := Tryz.func203.trans (congrArg some (by kernel_rfl))
  t0 := Tryz.underlying0
  a0 := Tryz.isAgg0
  z0 := Tryz.sizeOf0
  v0 := Tryz.zeroValue0
  t3 := Tryz.underlying3
  a3 := Tryz.isAgg3
  z3 := Tryz.sizeOf3
  v3 := Tryz.zeroValue3
  t4 := Tryz.underlying4
  a4 := Tryz.isAgg4
  z4 := Tryz.sizeOf4
  v4 := Tryz.zeroValue4
  t5 := Tryz.underlying5
  a5 := Tryz.isAgg5
  z5 := Tryz.sizeOf5
  v5 := Tryz.zeroValue5
  t9 := Tryz.underlying9
  a9 := Tryz.isAgg9
  z9 := Tryz.sizeOf9
  v9 := Tryz.zeroValue9
  t21 := Tryz.underlying21
  a21 := Tryz.isAgg21
  z21 := Tryz.sizeOf21
  v21 := Tryz.zeroValue21
  t31 := Tryz.underlying22
  a31 := Tryz.isAgg22
  z31 := Tryz.sizeOf22
  v31 := Tryz.zeroValue22
  t46 := Tryz.underlying89
  a46 := Tryz.isAgg89
  z46 := Tryz.sizeOf89
  v46 := Tryz.zeroValue89
  t51 := Tryz.underlying86
  a51 := Tryz.isAgg86
  z51 := Tryz.sizeOf86
  v51 := Tryz.zeroValue86
  t105 := Tryz.underlying145
  a105 := Tryz.isAgg145
  z105 := Tryz.sizeOf145
  v105 := Tryz.zeroValue145
  t119 := Tryz.underlying140
  a119 := Tryz.isAgg140
  z119 := Tryz.sizeOf140
  t138 := Tryz.underlying142
  a138 := Tryz.isAgg142
  z138 := Tryz.sizeOf142
  v138 := Tryz.zeroValue142
  t139 := Tryz.underlying143
  a139 := Tryz.isAgg143
  z139 := Tryz.sizeOf143
  v139 := Tryz.zeroValue143
  t146 := Tryz.underlying216
  a146 := Tryz.isAgg216
  z146 := Tryz.sizeOf216
  v146 := Tryz.zeroValue216
  g1 := by kernel_rfl
  g3 := by kernel_rfl
  g4 := by kernel_rfl }
def Tryz.lays155_ren : Go.Shelf.Ren := ⟨fun | 155 => 132 | 154 => 172 | 138 => 199 | 165 => 133 | 143 => 200 | 166 => 134 | 197 => 125 | 169 => 135 | 195 => 216 | 218 => 217 | 240 => 173 | 241 => 174 | 219 => 144 | 260 => 164 | 276 => 201 | 277 => 202 | 217 => 130 | 225 => 177 | 224 => 178 | 267 => 179 | 266 => 171 | 314 => 203 | n => n, fun | 9 => 9 | 3 => 3 | 4 => 4 | 72 => 152 | 0 => 0 | 76 => 156 | 105 => 145 | 21 => 21 | 5 => 5 | 70 => 150 | 20 => 20 | 37 => 46 | 75 => 155 | 127 => 195 | 164 => 213 | 46 => 89 | 119 => 140 | 139 => 143 | 138 => 142 | 146 => 216 | 51 => 86 | 80 => 158 | n => n, fun | 1 => 2 | 3 => 0 | 4 => 1 | n => n⟩
theorem Tryz.lays155 : Go.Proofs.Lays.n155 Tryz.prog Tryz.lays155_ren := {
  mixed := by kernel_rfl
  f138 := Tryz.func199.trans (congrArg some (by kernel_rfl))
  f143 := Tryz.func200.trans (congrArg some (by kernel_rfl))
  f154 := Tryz.func172.trans (congrArg some (by kernel_rfl))
  f155 := Tryz.func132.trans (congrArg some (by kernel_rfl))
  f165 := Tryz.func133.trans (congrArg some (by kernel_rfl))
  f166 := Tryz.func134.trans (congrArg some (by kernel_rfl))
  f169 := Tryz.func135.trans (congrArg some (by kernel_rfl))
  f195 := Tryz.func216.trans (congrArg some (by kernel_rfl))
  f197 := Tryz.func125.trans (congrArg some (by kernel_rfl))
  f217 := Tryz.func130.trans (congrArg some (by kernel_rfl))
  f218 := Tryz.func217.trans (congrArg some (by kernel_rfl))
  f219 := Tryz.func144.trans (congrArg some (by kernel_rfl))
  f224 := Tryz.func178.trans (congrArg some (by kernel_rfl))
  f225 := Tryz.func177.trans (congrArg some (by kernel_rfl))
  f240 := Tryz.func173.trans (congrArg some (by kernel_rfl))
  f241 := Tryz.func174.trans (congrArg some (by kernel_rfl))
  f260 := Tryz.func164.trans (congrArg some (by kernel_rfl))
  f266 := Tryz.func171.trans (congrArg some (by kernel_rfl))
  f267 := Tryz.func179.trans (congrArg some (by kernel_rfl))
  f276 := Tryz.func201.trans (congrArg some (by kernel_rfl))
  f277 := Tryz.func202.trans (congrArg some (by kernel_rfl))
  f314 := Tryz.func203.trans (congrArg some (by kernel_rfl))
  t0 := Tryz.underlying0
  a0 := Tryz.isAgg0
  z0 := Tryz.sizeOf0
  v0 := Tryz.zeroValue0
  t3 := Tryz.underlying3
  a3 := Tryz.isAgg3
  z3 := Tryz.sizeOf3
  v3 := Tryz.zeroValue3
  t4 := Tryz.underlying4
  a4 := Tryz.isAgg4
  z4 := Tryz.sizeOf4
  v4 := Tryz.zeroValue4
  t5 := Tryz.underlying5
  a5 := Tryz.isAgg5
  z5 := Tryz.sizeOf5
  v5 := Tryz.zeroValue5
  t9 := Tryz.underlying9
  a9 := Tryz.isAgg9
  z9 := Tryz.sizeOf9
  v9 := Tryz.zeroValue9
  t20 := Tryz.underlying20
  a20 := Tryz.isAgg20
  z20 := Tryz.sizeOf20
  v20 := Tryz.zeroValue20
  t21 := Tryz.underlying21
  a21 := Tryz.isAgg21
  z21 := Tryz.sizeOf21
  v21 := Tryz.zeroValue21
  t37 := Tryz.underlying46
  a37 := Tryz.isAgg46
  z37 := Tryz.sizeOf46
  v37 := Tryz.zeroValue46
  t46 := Tryz.underlying89
  a46 := Tryz.isAgg89
  z46 := Tryz.sizeOf89
  v46 := Tryz.zeroValue89
  t51 := Tryz.underlying86
  a51 := Tryz.isAgg86
  z51 := Tryz.sizeOf86
  v51 := Tryz.zeroValue86
  t70 := Tryz.underlying150
  a70 := Tryz.isAgg150
  z70 := Tryz.sizeOf150
  v70 := Tryz.zeroValue150
  t72 := Tryz.underlying152
  a72 := Tryz.isAgg152
  z72 := Tryz.sizeOf152
  v72 := Tryz.zeroValue152
  t75 := Tryz.underlying155
  a75 := Tryz.isAgg155
  z75 := Tryz.sizeOf155
  v75 := Tryz.zeroValue155
  t76 := Tryz.underlying156
  a76 := Tryz.isAgg156
  z76 := Tryz.sizeOf156
  v76 := Tryz.zeroValue156
  t105 := Tryz.underlying145
  a105 := Tryz.isAgg145
  z105 := Tryz.sizeOf145
  v105 := Tryz.zeroValue145
  t119 := Tryz.underlying140
  a119 := Tryz.isAgg140
  z119 := Tryz.sizeOf140
  t127 := Tryz.underlying195
  a127 := Tryz.isAgg195
  z127 := Tryz.sizeOf195
  v127 := Tryz.zeroValue195
  t138 := Tryz.underlying142
  a138 := Tryz.isAgg142
  z138 := Tryz.sizeOf142
  v138 := Tryz.zeroValue142
  t139 := Tryz.underlying143
  a139 := Tryz.isAgg143
  z139 := Tryz.sizeOf143
  v139 := Tryz.zeroValue143
  t146 := Tryz.underlying216
  a146 := Tryz.isAgg216
  z146 := Tryz.sizeOf216
  v146 := Tryz.zeroValue216
  t164 := Tryz.underlying213
  a164 := Tryz.isAgg213
  z164 := Tryz.sizeOf213
  v164 := Tryz.zeroValue213
  g1 := by kernel_rfl
  g3 := by kernel_rfl
  g4 := by kernel_rfl }
theorem Tryz.Builder_Extra_155 : Builder.Extra Tryz.prog Tryz.lays155_ren := {
  sizeBuilder := by kernel_rfl
  liesBuilder := by kernel_rfl
  t5 := Tryz.underlying5
  a5 := Tryz.isAgg5
  z5 := Tryz.sizeOf5
  v5 := Tryz.zeroValue5
  infoByte := by kernel_rfl
  cellsByte := by kernel_rfl
  sizeByte := by kernel_rfl
  neB5 := by decide }
open Go.RowKit Go.Lib in
theorem Tryz.strings_ReplaceAll (s old new : ByteArray) (m : Int) (w : World) (hs : s.size < 4294967281) (hm : w.cell? ⟨2, 0, none⟩ = some (.int .i64 m)) (h1 : 1 ≤ old.size) (hlen : s.size + Lib.countB s old * new.size ≤ 140737488355328) :
    Calls Tryz.prog 132 #[.string s, .string old, .string new] w fun e w' =>
      e = .returned (.string ⟨(Lib.replaceAll s.data.toList old.data.toList new.data.toList).toArray⟩) ∧ Below w.heap.size w w' := Any.strings_ReplaceAll Tryz.lays155 Tryz.Builder_Extra_155 s old new m w hs hm h1 hlen
def Tryz.lays196_ren : Go.Shelf.Ren := ⟨fun | 196 => 83 | 259 => 123 | n => n, fun | 9 => 9 | 4 => 4 | 3 => 3 | 5 => 5 | 12 => 12 | 119 => 140 | 0 => 0 | 46 => 89 | 139 => 143 | 138 => 142 | 53 => 128 | n => n, fun | 3 => 0 | 4 => 1 | n => n⟩
theorem Tryz.lays196 : Go.Proofs.Lays.n196 Tryz.prog Tryz.lays196_ren := {
  mixed := by kernel_rfl
  f196 := Tryz.func83.trans (congrArg some (by kernel_rfl))
  f259 := Tryz.func123.trans (congrArg some (by kernel_rfl))
  t0 := Tryz.underlying0
  a0 := Tryz.isAgg0
  z0 := Tryz.sizeOf0
  v0 := Tryz.zeroValue0
  t3 := Tryz.underlying3
  a3 := Tryz.isAgg3
  z3 := Tryz.sizeOf3
  v3 := Tryz.zeroValue3
  t4 := Tryz.underlying4
  a4 := Tryz.isAgg4
  z4 := Tryz.sizeOf4
  v4 := Tryz.zeroValue4
  t5 := Tryz.underlying5
  a5 := Tryz.isAgg5
  z5 := Tryz.sizeOf5
  v5 := Tryz.zeroValue5
  t9 := Tryz.underlying9
  a9 := Tryz.isAgg9
  z9 := Tryz.sizeOf9
  v9 := Tryz.zeroValue9
  t12 := Tryz.underlying12
  a12 := Tryz.isAgg12
  z12 := Tryz.sizeOf12
  v12 := Tryz.zeroValue12
  t46 := Tryz.underlying89
  a46 := Tryz.isAgg89
  z46 := Tryz.sizeOf89
  v46 := Tryz.zeroValue89
  t53 := Tryz.underlying128
  a53 := Tryz.isAgg128
  z53 := Tryz.sizeOf128
  v53 := Tryz.zeroValue128
  t119 := Tryz.underlying140
  a119 := Tryz.isAgg140
  z119 := Tryz.sizeOf140
  t138 := Tryz.underlying142
  a138 := Tryz.isAgg142
  z138 := Tryz.sizeOf142
  v138 := Tryz.zeroValue142
  t139 := Tryz.underlying143
  a139 := Tryz.isAgg143
  z139 := Tryz.sizeOf143
  v139 := Tryz.zeroValue143
  g3 := by kernel_rfl
  g4 := by kernel_rfl }
open Go.RowKit in
theorem Tryz.utf8_ValidString (s : ByteArray) (w : World) (hs : s.size ≤ 9223372036854775807) (hT : Lib.Utf8Tabs 0 1 w) :
    Calls Tryz.prog 83 #[.string s] w fun e w' => e = .returned (.bool (Lib.validD s.data.toList)) ∧ Below w.heap.size w w' := Any.utf8_ValidString Tryz.lays196 s w hs hT
end Go.Proofs
namespace Go.Proofs.YtcmcopieagpppaaGreatDoor.P
open Go.RowKit Go.Proofs.YtcmcopieagpppaaGreatDoorW.PrintWords
open Go.Proofs.YtcmcopieagpppaaGreatDoor
def strings_IndexByte.f (a0 : ByteArray) (a1 : Int) : Option Int := some (Lib.indexByte a0.data.toList a1.toNat.toUInt8)
theorem strings_IndexByte.calls (a0 : ByteArray) (a1 : Int) (r : Int) (w : World) (h : strings_IndexByte.f a0 a1 = some r) :
    Calls Tryz.prog 89 #[.string a0, .int .u8 a1] w fun e w' => e = .returned (.int .i64 r) ∧ Drawn0 w w' := by
  obtain rfl := Option.some.inj h
  refine (Tryz.strings_IndexByte a0 a1 w).mono ?_
  rintro e w' ⟨rfl, rfl⟩
  exact ⟨rfl, Drawn0.refl _⟩
def ascii_Split.f (a0 : ByteArray) (a1 : Int) : Option (List ByteArray) :=
  if a0.size < 4294967281 then some (Lib.splitB ⟨#[a1.toNat.toUInt8]⟩ 0 (Lib.countB a0 ⟨#[a1.toNat.toUInt8]⟩) a0) else none
theorem index_one_lib (x : ByteArray) (c : UInt8) (w : World) :
    Calls Tryz.prog 200 #[.string x, .string ⟨#[c]⟩] w fun e w' => e = .returned (.int .i64 (Lib.index x.data.toList [c])) ∧ w' = w := by
  refine (Tryz.strings_Index_one x c w).mono ?_
  rintro e w' ⟨rfl, rfl⟩
  exact ⟨by rw [Lib.index_one], rfl⟩
theorem count_one_lib (s : ByteArray) (c : UInt8) (w : World) :
    Calls Tryz.prog 199 #[.string s, .string ⟨#[c]⟩] w fun e w' => e = .returned (.int .i64 (Lib.countB s ⟨#[c]⟩)) ∧ w' = w := by
  refine (Tryz.strings_Count_one s c w).mono fun e w' ⟨he, hw⟩ => ⟨?_, hw⟩
  rw [he]
  show _ = Ending.returned (Value.int .i64 ((Lib.count s.data.toList [c] : Nat) : Int))
  rw [Lib.count_one]
  rfl
theorem genSplit_one (s : ByteArray) (c : UInt8) (w : World) (hs : s.size < 4294967281) :
    Calls Tryz.prog 181 #[.string s, .string ⟨#[c]⟩, .int .i64 0, .int .i64 (-1)] w fun e w' =>
      e = .returned (.slice (some ⟨w.heap.size, 0, none⟩) (Lib.splitB ⟨#[c]⟩ 0 (Lib.countB s ⟨#[c]⟩) s).length (Lib.splitB ⟨#[c]⟩ 0 (Lib.countB s ⟨#[c]⟩) s).length) ∧ w' = w.alloc (.cells ((Lib.splitB ⟨#[c]⟩ 0 (Lib.countB s ⟨#[c]⟩) s).map Value.string).toArray 9) := by
  have h1 : 1 ≤ (⟨#[c]⟩ : ByteArray).size := Nat.le_refl 1
  have hle := Lib.countB_le ⟨#[c]⟩ h1 s.size s (Nat.le_refl _)
  have hlen := Lib.splitB_all ⟨#[c]⟩ h1 0 _ s rfl
  have k := Any.strings_genSplit_core Tryz.lays221 (by kernel_rfl) s ⟨#[c]⟩ 0 (-1) (Lib.countB s ⟨#[c]⟩ + 1) w hs h1 (Nat.zero_le _)
    (fun x cs _ => index_one_lib x c _) (count_one_lib s c w) (by decide) (by decide) (by rw [if_pos (by decide)]; omega)
  rw [Nat.add_sub_cancel, hlen] at k
  have e2 : Lib.cellsOf (Lib.splitB ⟨#[c]⟩ 0 (Lib.countB s ⟨#[c]⟩) s) (Lib.countB s ⟨#[c]⟩ + 1) = ((Lib.splitB ⟨#[c]⟩ 0 (Lib.countB s ⟨#[c]⟩) s).map Value.string).toArray := by rw [← hlen]; exact Lib.cellsOf_full _
  rw [e2] at k
  rw [hlen]
  exact k
theorem split_one (s : ByteArray) (c : UInt8) (w : World) (hs : s.size < 4294967281) :
    Calls Tryz.prog 152 #[.string s, .string ⟨#[c]⟩] w fun e w' =>
      e = .returned (.slice (some ⟨w.heap.size, 0, none⟩) (Lib.splitB ⟨#[c]⟩ 0 (Lib.countB s ⟨#[c]⟩) s).length (Lib.splitB ⟨#[c]⟩ 0 (Lib.countB s ⟨#[c]⟩) s).length) ∧ w' = w.alloc (.cells ((Lib.splitB ⟨#[c]⟩ 0 (Lib.countB s ⟨#[c]⟩) s).map Value.string).toArray 9) := by
  have k := genSplit_one s c w hs
  go_enter Tryz.func152, Tryz.ntmps152
  go_wp2_with (go_at_call 181; refine k.mono ?_; rintro e w' ⟨rfl, hw⟩; rw [hw])
  go_ret
  exact ⟨rfl, rfl⟩
theorem heap_new (W : World) (o : Obj) (n : Nat) (h : n = W.heap.size) : (W.alloc o).heap[n]? = some o := by subst h; simp [World.alloc, -World.alloc_eq]
theorem strOfNums_one (a : Int) : strOfNums [a] = ⟨#[a.toNat.toUInt8]⟩ := rfl
theorem read_one (w : World) (a : Int) : ReadsInt (w.alloc (.cells #[.int .u8 a] 5)) .u8 (some ⟨w.heap.size, 0, none⟩) 1 [a] := by
  refine ⟨rfl, by omega, fun _ => ⟨_, rfl, fun j hj => ?_⟩⟩
  obtain rfl : j = 0 := by omega
  simp [Addr.add]
set_option maxRecDepth 100000 in
theorem ascii_Split.calls (a0 : ByteArray) (a1 : Int) (r : List ByteArray) (w : World) (h : ascii_Split.f a0 a1 = some r) :
    Calls Tryz.prog 118 #[.string a0, .int .u8 a1] w fun e w' => ∃ v0_ : Value, e = .returned (v0_) ∧ Kd.R Kd.string 9 w' w.heap.size (fun _ => True) v0_ r ∧ Below w.heap.size w w' := by
  unfold ascii_Split.f at h
  by_cases hs : a0.size < 4294967281
  · rw [if_pos hs] at h
    replace h := Option.some.inj h
    subst h
    have hcv := string_of_reads (P := Tryz.prog) (src := 46) (dst := 9) (c := 1) Tryz.underlying46 Tryz.underlying5 Tryz.underlying9 (read_one w a1)
    rw [strOfNums_one] at hcv
    have k := split_one a0 a1.toNat.toUInt8 (w.alloc (.cells #[.int .u8 a1] 5)) hs
    have hle := Lib.countB_le ⟨#[a1.toNat.toUInt8]⟩ (Nat.le_refl 1) a0.size a0 (Nat.le_refl _)
    have hlen := Lib.splitB_all ⟨#[a1.toNat.toUInt8]⟩ (Nat.le_refl 1) 0 _ a0 rfl
    generalize Lib.splitB ⟨#[a1.toNat.toUInt8]⟩ 0 (Lib.countB a0 ⟨#[a1.toNat.toUInt8]⟩) a0 = xs at *
    have hm : xs.length ≤ maxLen := by unfold maxLen; omega
    clear hlen hle hs
    have K := Lib.hid k
    have HM := Lib.hid hm
    clear k hm
    go_enter Tryz.func118, Tryz.ntmps118
    go_wp2_with (go_at_call 152; refine (K.out).mono ?_; rintro e w' ⟨rfl, hw⟩; rw [hw])
    go_ret
    refine ⟨_, rfl, Kd.R_of_own ⟨by simp [encs], .inr ⟨_, xs.length, (xs.map Value.string).toArray, rfl, by simp, heap_new _ _ _ (by simp), Nat.le_refl _, HM.out, by simp, by rw [Nat.mul_one]; exact List.take_of_length_le (by simp)⟩⟩ (fun _ _ => trivial), ?_⟩
    exact ((Below.refl _ _).alloc (Nat.le_refl _) _).alloc (by simp) _
  · rw [if_neg hs] at h
    cases h
def ascii_Lower.f (a0 : ByteArray) : Option ByteArray := if a0.size ≤ 140737488351232 then some ⟨(Web.lowerL a0.data.toList).toArray⟩ else none
def lowAt (l : List UInt8) (k j : Nat) : Int := ((if j < k then Web.lowerB (l.getD j 0) else l.getD j 0).toNat : Int)
theorem lowAt_range (l : List UInt8) (k j : Nat) : 0 ≤ lowAt l k j ∧ lowAt l k j ≤ 255 := by
  unfold lowAt
  have := (if j < k then Web.lowerB (l.getD j 0) else l.getD j 0).toNat_lt
  omega
theorem lowAt_zero (l : List UInt8) (j : Nat) : lowAt l 0 j = ((l.getD j 0).toNat : Int) := by simp [lowAt]
theorem lowAt_other (l : List UInt8) (k j : Nat) (h : j ≠ k) : lowAt l (k + 1) j = lowAt l k j := by
  unfold lowAt
  by_cases h1 : j < k
  · rw [if_pos h1, if_pos (by omega)]
  · rw [if_neg h1, if_neg (by omega)]
theorem lowAt_big (l : List UInt8) (k : Nat) (h1 : 65 ≤ lowAt l k k) (h2 : lowAt l k k ≤ 90) : lowAt l (k + 1) k = lowAt l k k + 32 := by
  unfold lowAt at *
  rw [if_neg (Nat.lt_irrefl k)] at *
  rw [if_pos (by omega), Web.lowerB_big (by omega) (by omega)]
  omega
theorem lowAt_small (l : List UInt8) (k : Nat) (h : ¬ (65 ≤ lowAt l k k ∧ lowAt l k k ≤ 90)) : lowAt l (k + 1) k = lowAt l k k := by
  unfold lowAt at *
  rw [if_neg (Nat.lt_irrefl k)] at *
  rw [if_pos (by omega), Web.lowerB_small (by omega)]
def LowRow (l : List UInt8) (g : Nat) (n k : Nat) (W : World) : Prop :=
  ∀ j, j < n → W.cell? ⟨g, j, none⟩ = some (.int .u8 (lowAt l k j)) ∧ W.frozen? ⟨g, j, none⟩ = false
theorem LowRow.next_same {l : List UInt8} {g n k : Nat} {W : World} (h : LowRow l g n k W) (hx : ¬ (65 ≤ lowAt l k k ∧ lowAt l k k ≤ 90)) : LowRow l g n (k + 1) W := by
  intro j hj
  refine ⟨?_, (h j hj).2⟩
  rw [(h j hj).1]
  by_cases e : j = k
  · subst e; rw [lowAt_small l j hx]
  · rw [lowAt_other l k j e]
theorem LowRow.next_set {l : List UInt8} {g n k : Nat} {W : World} (h : LowRow l g n k W) (hk : k < n) (hx : 65 ≤ lowAt l k k ∧ lowAt l k k ≤ 90) : LowRow l g n (k + 1) (W.setCell ⟨g, k, none⟩ (.int .u8 (lowAt l k k + 97 - 65))) := by
  intro j hj
  rw [World.frozen?_setCell]
  refine ⟨?_, (h j hj).2⟩
  by_cases e : j = k
  · subst e
    rw [World.cell?_setCell_same _ _ _ (h j hj).1, lowAt_big l j hx.1 hx.2]
    congr 2
    omega
  · rw [World.cell?_setCell_other _ _ _ _ (by intro e'; injection e' with _ e'; exact e e'.symm), (h j hj).1, lowAt_other l k j e]
theorem LowRow.reads {l : List UInt8} {g n : Nat} {W : World} (h : LowRow l g n n W) (hn : l.length = n) (hm : n ≤ 9223372036854775807) : ReadsInt W .u8 (some ⟨g, 0, none⟩) n ((Web.lowerL l).map fun b => (b.toNat : Int)) := by
  refine ⟨by simp [Web.lowerL, hn], hm, fun _ => ⟨_, rfl, fun j hj => ?_⟩⟩
  rw [add_plain, (h j hj).1]
  unfold lowAt
  have hj' : j < l.length := by omega
  rw [if_pos hj]
  simp [Web.lowerL, List.getD_eq_getElem?_getD, List.getElem?_eq_getElem hj']
theorem strOfNums_bytes (l : List UInt8) : strOfNums (l.map fun b => (b.toNat : Int)) = ⟨l.toArray⟩ := by
  unfold strOfNums
  simp [List.map_map, Function.comp_def]
theorem lowRow_start (w : World) (s : ByteArray) : LowRow s.data.toList w.heap.size s.size 0 (Lib.bytesWorld w 5 s) := by
  intro j hj
  refine ⟨by rw [Lib.bytesWorld_cell w 5 s j hj, lowAt_zero], ?_⟩
  simp only [World.frozen?, Lib.bytesWorld_at_new]
  have : (Lib.bytesCells w 5 s).size = s.size + (grownCap w s.size 0 5 - s.size) := by simp [Lib.bytesCells]
  simp
  omega
set_option maxHeartbeats 1000000 in
theorem lower_walk (s : ByteArray) (w : World) (hs : s.size ≤ 140737488351232) :
    Calls Tryz.prog 90 #[.string s] w fun e w' => e = .returned (.string ⟨(Web.lowerL s.data.toList).toArray⟩) ∧ Below w.heap.size w w' := by
  have hl : s.data.toList.length = s.size := data_length s
  have hm : s.size ≤ 9223372036854775807 := by omega
  have kb := print_bytes (P := Tryz.prog) 9 46 5 Tryz.underlying9 Tryz.underlying46 Tryz.underlying5 s w
  have h0 := lowRow_start w s
  have hB := bytes_below (Below.refl w.heap.size w) (Nat.le_refl _) 5 s
  generalize Lib.bytesWorld w 5 s = W0 at *
  generalize grownCap w s.size 0 5 = cap at *
  have H0 := Lib.hid h0; have HB := Lib.hid hB; have HL := Lib.hid hl
  clear h0 hB hl hs
  go_enter Tryz.func90, Tryz.ntmps90
  go_wp2_with fail
  go_loopw [10] (fun v wr => ∃ k : Nat, k ≤ s.size ∧ v = .int .i64 k ∧ LowRow s.data.toList w.heap.size s.size k wr ∧ Below w.heap.size w wr) (fun v _ => s.size - (intOf v).toNat)
  case atStart => exact ⟨0, Nat.zero_le _, rfl, H0.out, HB.out⟩
  case round =>
    obtain ⟨k, hk, rfl, hrow, hbel⟩ := hrel
    have HR := Lib.hid hrow; have HBe := Lib.hid hbel
    clear hrow hbel
    by_cases hlt : k < s.size
    · obtain ⟨hcell, hfz⟩ := HR.out k hlt
      obtain ⟨x0, x255⟩ := lowAt_range s.data.toList k k
      obtain ⟨x, hx⟩ : ∃ x, lowAt s.data.toList k k = x := ⟨_, rfl⟩
      rw [hx] at hcell x0 x255
      have HX := Lib.hid hx; clear hx
      by_cases h65 : 65 ≤ x
      · by_cases h90 : x ≤ 90
        · go_wp2
          go_roundw
          case rel => exact ⟨k + 1, by omega, by go_num, by rw [← HX.out] at *; exact HR.out.next_set hlt ⟨h65, h90⟩, HBe.out.setCell (Nat.le_refl _) _⟩
          case measure => simp [intOf]; omega
        · go_wp2
          go_roundw
          case rel => exact ⟨k + 1, by omega, by go_num, HR.out.next_same (by rw [HX.out]; omega), HBe.out⟩
          case measure => simp [intOf]; omega
      · go_wp2
        go_roundw
        case rel => exact ⟨k + 1, by omega, by go_num, HR.out.next_same (by rw [HX.out]; omega), HBe.out⟩
        case measure => simp [intOf]; omega
    · obtain rfl : k = s.size := by omega
      have hrd := HR.out.reads HL.out hm
      have hcv := fun W (h : ReadsInt W .u8 (some ⟨w.heap.size, 0, none⟩) s.size ((Web.lowerL s.data.toList).map fun b => (b.toNat : Int))) => string_of_reads (P := Tryz.prog) (src := 46) (dst := 9) (c := cap) Tryz.underlying46 Tryz.underlying5 Tryz.underlying9 h
      have hcv' := hcv _ hrd
      rw [strOfNums_bytes] at hcv'
      clear hcv hrd
      go_wp2
      go_ret
      exact ⟨rfl, HBe.out⟩
theorem ascii_Lower.calls (a0 : ByteArray) (r : ByteArray) (w : World) (h : ascii_Lower.f a0 = some r) :
    Calls Tryz.prog 90 #[.string a0] w fun e w' => e = .returned (.string r) ∧ Below w.heap.size w w' := by
  unfold ascii_Lower.f at h
  by_cases hs : a0.size ≤ 140737488351232
  · rw [if_pos hs] at h
    replace h := Option.some.inj h
    subst h
    exact lower_walk a0 w hs
  · rw [if_neg hs] at h
    cases h
def strings_LastIndexByte.f (a0 : ByteArray) (a1 : Int) : Option Int := if a0.size ≤ 140737488351232 then some (Lib.lastIndexByte a0 a1) else none
theorem strings_LastIndexByte.calls (a0 : ByteArray) (a1 : Int) (r : Int) (w : World) (h : strings_LastIndexByte.f a0 a1 = some r) :
    Calls Tryz.prog 91 #[.string a0, .int .u8 a1] w fun e w' => e = .returned (.int .i64 r) ∧ Drawn0 w w' := by
  unfold strings_LastIndexByte.f at h
  by_cases hs : a0.size ≤ 140737488351232
  · rw [if_pos hs] at h
    replace h := Option.some.inj h
    subst h
    refine (Tryz.strings_LastIndexByte a0 a1 (by omega) w).mono ?_
    rintro e w' ⟨rfl, rfl⟩
    exact ⟨rfl, Drawn0.refl _⟩
  · rw [if_neg hs] at h
    cases h
theorem slite_index_one_lib (x : ByteArray) (c : UInt8) (w : World) :
    Calls Tryz.prog 144 #[.string x, .string ⟨#[c]⟩] w fun e w' => e = .returned (.int .i64 (Lib.index x.data.toList [c])) ∧ w' = w := by
  refine (Tryz.stringslite_Index_one x c w).mono ?_
  rintro e w' ⟨rfl, rfl⟩
  exact ⟨by rw [Lib.index_one], rfl⟩
set_option maxHeartbeats 2000000 in
set_option maxRecDepth 100000 in
theorem slite_cut_one (s : ByteArray) (c : UInt8) (w : World) (hs : s.size ≤ 140737488351232) :
    Calls Tryz.prog 111 #[.string s, .string ⟨#[c]⟩] w fun e w' => e = .returned (.tuple #[.string ⟨(Lib.cut s.data.toList [c]).1.toArray⟩, .string ⟨(Lib.cut s.data.toList [c]).2.1.toArray⟩, .bool (Lib.cut s.data.toList [c]).2.2]) ∧ Drawn0 w w' := by
  have hm : s.size ≤ 9223372036854775806 := by omega
  clear hs
  rcases Lib.indexB_cases s ⟨#[c]⟩ with hix | ⟨i, hix, hroom⟩
  · obtain ⟨e1, e2, e3⟩ := Lib.cutB_miss s ⟨#[c]⟩ hix
    rw [e1, e2, e3]
    have k := slite_index_one_lib s c w
    rw [show Lib.index s.data.toList [c] = _ from hix] at k
    have K := Lib.hid k
    clear k hix e1 e2 e3
    go_enter Tryz.func111, Tryz.ntmps111
    go_wp2_with (go_at_call 144; refine (K.out).mono ?_; rintro e w' ⟨rfl, hw⟩; rw [hw])
    go_ret3
    exact ⟨rfl, Drawn0.refl _⟩
  · obtain ⟨e1, e2, e3⟩ := Lib.cutB_hit s ⟨#[c]⟩ i hix
    rw [e1, e2, e3]
    have k := slite_index_one_lib s c w
    rw [show Lib.index s.data.toList [c] = _ from hix] at k
    have K := Lib.hid k
    have hroom' : i + 1 ≤ s.size := hroom
    have c1 : (0 : Int) ≤ ↑i := by omega
    have c2 : (↑i : Int) ≤ ↑s.size := by omega
    have c3 : (0 : Int) ≤ ↑i + 1 := by omega
    have c4 : (↑i + 1 : Int) ≤ ↑s.size := by omega
    clear k hix e1 e2 e3 hroom
    go_enter Tryz.func111, Tryz.ntmps111
    go_wp2_with (go_at_call 144; refine (K.out).mono ?_; rintro e w' ⟨rfl, hw⟩; rw [hw])
    go_quiet (fail)
    go_wp2
    go_ret3
    exact ⟨rfl, ⟨_, rfl⟩⟩
set_option maxHeartbeats 1000000 in
theorem cut_one (s : ByteArray) (c : UInt8) (w : World) (hs : s.size ≤ 140737488351232) :
    Calls Tryz.prog 77 #[.string s, .string ⟨#[c]⟩] w fun e w' => e = .returned (.tuple #[.string ⟨(Lib.cut s.data.toList [c]).1.toArray⟩, .string ⟨(Lib.cut s.data.toList [c]).2.1.toArray⟩, .bool (Lib.cut s.data.toList [c]).2.2]) ∧ Drawn0 w w' := by
  have K := Lib.hid (slite_cut_one s c w hs)
  clear hs
  go_enter Tryz.func77, Tryz.ntmps77
  go_wp2_with (go_at_call 111; refine (K.out).mono ?_; rintro e w' ⟨rfl, ⟨n, rfl⟩⟩)
  go_ret3
  exact ⟨rfl, ⟨n, rfl⟩⟩
end Go.Proofs.YtcmcopieagpppaaGreatDoor.P
namespace Go.Proofs.YtcmcopieagpppaaGreatDoor.P
open Go.RowKit Go.Proofs.YtcmcopieagpppaaGreatDoorW.PrintWords Go.Proofs.YtcmcopieagpppaaGreatDoorW.PrintLast Go.Proofs.YtcmcopieagpppaaGreatDoorW.PrintMore
attribute [local go_sem] max2_int min2_int max_two min_two max_three min_three max_four min_four
set_option linter.unusedVariables false
set_option linter.unusedSimpArgs false
def errW : Option Int → Value
  | none => .nilIface
  | some c => .iface 0 (.int .i64 c)
theorem errW_none : errW none = .nilIface := rfl
theorem errW_some (c : Int) : errW (some c) = .iface 0 (.int .i64 c) := rfl
theorem info5 : (Tryz.prog.info? 5).map (fun i => (i.zero, i.size, i.bytes)) = some (some (.int .u8 0), 1, 1) := by kernel_rfl
theorem info9 : (Tryz.prog.info? 9).map (fun i => (i.zero, i.size, i.bytes)) = some (some (.string ⟨#[]⟩), 1, 16) := by kernel_rfl
structure S31 where
  f0 : ByteArray
  f1 : ByteArray
  f2 : Int
def z31 : S31 := ⟨(⟨#[]⟩ : ByteArray), (⟨#[]⟩ : ByteArray), (0 : Int)⟩
end Go.Proofs.YtcmcopieagpppaaGreatDoor.P
namespace Go.Proofs.YtcmcopieagpppaaGreatDoor.P
open Go.RowKit Go.Proofs.YtcmcopieagpppaaGreatDoorW.PrintWords Go.Proofs.YtcmcopieagpppaaGreatDoorW.PrintLast Go.Proofs.YtcmcopieagpppaaGreatDoorW.PrintMore
set_option linter.unusedVariables false
set_option linter.unusedSimpArgs false
def ba (l : List UInt8) : ByteArray := ⟨l.toArray⟩
theorem ba_list (l : List UInt8) : (ba l).data.toList = l := rfl
theorem ba_size (l : List UInt8) : (ba l).size = l.length := rfl
theorem ba_toList (l : List UInt8) : (ba l).toList = l := by rw [Lib.toList_data]; rfl
theorem size_list (s : ByteArray) : s.data.toList.length = s.size := by rw [Array.length_toList]; rfl
theorem ba_append (a b : List UInt8) : ba a ++ ba b = ba (a ++ b) := by
  apply ByteArray.ext
  rw [ByteArray.data_append]
  simp [ba]
theorem ba_extract (l : List UInt8) (i j : Nat) : (ba l).extract i j = ba ((l.take j).drop i) := by
  apply ByteArray.ext
  rw [ByteArray.data_extract]
  simp [ba, List.extract_eq_take_drop, List.drop_take]
theorem bt_ba (l : List UInt8) (i : Nat) (h : i < l.length) : bt (ba l) (i : Int) = (l[i].toNat : Int) := by
  unfold bt
  rw [dif_pos (show ((i : Int)).toNat < (ba l).size from h)]
  rfl
theorem wrap_up {i : Nat} (h : i ≤ 9223372036854775806) : wrap64 ((i : Int) + 1) = ((i + 1 : Nat) : Int) := by
  unfold wrap64; omega
def nums8 (l : List UInt8) : List Int := l.map fun b => (b.toNat : Int)
theorem nums8_len (l : List UInt8) : (nums8 l).length = l.length := by simp [nums8]
theorem nums8_snoc (l : List UInt8) (c : UInt8) : nums8 l ++ [(c.toNat : Int)] = nums8 (l ++ [c]) := by simp [nums8]
theorem str_nums8 (l : List UInt8) : strOfNums (nums8 l) = ba l := strOfNums_bytes l
theorem u8_eq (c d : UInt8) : ((c.toNat : Int) = (d.toNat : Int)) ↔ c = d := by
  constructor
  · intro h; exact UInt8.toNat_inj.1 (by omega)
  · rintro rfl; rfl
theorem and15 : ∀ n : Nat, n < 256 → Go.bits .and .u8 (n : Int) 15 = ((n % 16 : Nat) : Int) := by decide +kernel
theorem hexU_bt : ∀ n : Nat, n < 16 → bt (⟨#[48, 49, 50, 51, 52, 53, 54, 55, 56, 57, 65, 66, 67, 68, 69, 70]⟩ : ByteArray) (n : Int) = ((Web.hexU n).toNat : Int) := by decide +kernel
theorem encB_len (n : Nat) (c : UInt8) : (Web.encB n c).length ≤ 3 := by unfold Web.encB; split <;> simp
theorem enc_len (n : Nat) (l : List UInt8) : (Web.enc n l).length ≤ 3 * l.length := by
  unfold Web.enc
  induction l with
  | nil => simp
  | cons c t ih => rw [List.flatMap_cons, List.length_append, List.length_cons]; have := encB_len n c; omega
theorem enc_snoc (n : Nat) (l : List UInt8) (c : UInt8) : Web.enc n (l ++ [c]) = Web.enc n l ++ Web.encB n c := by simp [Web.enc, List.flatMap_append]
def isLetter (c : UInt8) : Bool := decide (97 ≤ c.toNat ∧ c.toNat ≤ 122) || decide (65 ≤ c.toNat ∧ c.toNat ≤ 90)
end Go.Proofs.YtcmcopieagpppaaGreatDoor.P
namespace Go.Proofs.YtcmcopieagpppaaGreatDoor.P
open Go.RowKit Go.Proofs.YtcmcopieagpppaaGreatDoorW.PrintWords Go.Proofs.YtcmcopieagpppaaGreatDoorW.PrintLast Go.Proofs.YtcmcopieagpppaaGreatDoorW.PrintMore
set_option linter.unusedVariables false
def hexI (c : Int) : Int := if 48 ≤ c ∧ c ≤ 57 then c - 48 else if 97 ≤ c ∧ c ≤ 102 then c - 87 else if 65 ≤ c ∧ c ≤ 70 then c - 55 else -1
end Go.Proofs.YtcmcopieagpppaaGreatDoor.P
namespace Go.Proofs.YtcmcopieagpppaaGreatDoor.P
open Go.RowKit Go.Proofs.YtcmcopieagpppaaGreatDoorW.PrintWords Go.Proofs.YtcmcopieagpppaaGreatDoorW.PrintLast Go.Proofs.YtcmcopieagpppaaGreatDoorW.PrintMore
attribute [local go_sem] max2_int min2_int max_two min_two max_three min_three max_four min_four
set_option linter.unusedVariables false
set_option linter.unusedSimpArgs false
mutual
def parapetref1_Decimal.j0 : Nat → Int → Int → Option (ByteArray)
  | 0, _, _ => none
  | k + 1, x0, x3 => parapetref1_Decimal.l0 k x0 x3 ([] : List Int)
def parapetref1_Decimal.l0 : Nat → Int → Int → List Int → Option (ByteArray)
  | 0, _, _, _ => none
  | k + 1, x0, x3, x4 => if x3 > 0 then (if x4.length < 140737488355328 then (parapetref1_Decimal.l0 k x0 (IntKind.u64.wrap (Int.tdiv x3 10)) (x4 ++ [(IntKind.u64.wrap (48 + (Int.tmod x3 10))) % 256])) else (none)) else (if x0 < 0 then (if ([] : List Int).length < 140737488355328 then (parapetref1_Decimal.j2 k x4 (([] : List Int) ++ [45])) else (none)) else (parapetref1_Decimal.j2 k x4 ([] : List Int)))
def parapetref1_Decimal.j2 : Nat → List Int → List Int → Option (ByteArray)
  | 0, _, _ => none
  | k + 1, x4, x5 => parapetref1_Decimal.l1 k x4 x5 (wrap64 ((x4.length : Int) - 1))
def parapetref1_Decimal.l1 : Nat → List Int → List Int → Int → Option (ByteArray)
  | 0, _, _, _ => none
  | k + 1, x4, x5, x6 => if x6 ≥ 0 then (if 0 ≤ x6 then (if x6 < (x4.length : Int) then (if x5.length < 140737488355328 then (parapetref1_Decimal.l1 k x4 (x5 ++ [rd x4 x6]) (wrap64 (x6 - 1))) else (none)) else (none)) else (none)) else (some (strOfNums x5))
end
def parapetref1_Decimal.f (k : Nat) (a0 : Int) : Option (ByteArray) := if a0 = 0 then (some (⟨#[48]⟩ : ByteArray)) else (if a0 < 0 then (parapetref1_Decimal.j0 k a0 (IntKind.u64.wrap (-(IntKind.u64.wrap (a0))))) else (parapetref1_Decimal.j0 k a0 (IntKind.u64.wrap (a0))))
set_option maxHeartbeats 8000000 in
set_option maxRecDepth 100000 in
theorem parapetref1_Decimal.calls (k : Nat) (a0 : Int) (r : ByteArray) (w : World) (h : parapetref1_Decimal.f k a0 = some r) :
    Calls Tryz.prog 70 #[.int .i64 a0] w fun e w' => e = .returned (.string r) ∧ Below w.heap.size w w' := by
  have HB := Aside0.mk (Below.refl w.heap.size w)
  have H : (if a0 = 0 then (some (⟨#[48]⟩ : ByteArray)) else (if a0 < 0 then (parapetref1_Decimal.j0 k a0 (IntKind.u64.wrap (-(IntKind.u64.wrap (a0))))) else (parapetref1_Decimal.j0 k a0 (IntKind.u64.wrap (a0))))) = some r := h
  clear h
  by_cases c2 : a0 = 0
  · rw [if_pos c2] at H
    have c2b0 : (a0 == 0) = true := beq_iff_eq.mpr c2
    have c2b1 : (a0 != 0) = false := bne_eq_false_iff_eq.mpr c2
    clear c2
    obtain rfl := Option.some.inj H
    go_enter Tryz.func70, Tryz.ntmps70
    go_wp2
    go_ret
    exact ⟨by first | rfl | (simp [errW_none, errW_some] <;> rfl) | (simp [*, errW_none, errW_some] <;> rfl), by repeat (first | (with_reducible first | exact HB.out | apply below_alloc | apply pw_below_drewN | apply below_drew1) | exact HB.out)⟩
  · rw [if_neg c2] at H
    have c2b0 : (a0 == 0) = false := beq_eq_false_iff_ne.mpr c2
    have c2b1 : (a0 != 0) = true := bne_iff_ne.mpr c2
    have HC3 := Aside0.mk H
    clear H
    go_enter Tryz.func70, Tryz.ntmps70
    go_upto_if 12 with (fail)
    go_cut [3] (fun v3 wc => ∃ (kq : Nat) (x3_2 : Int), v3 = .int .u64 x3_2 ∧ Aside0 (parapetref1_Decimal.j0 kq a0 x3_2 = some r) ∧ Aside0 (kq ≤ k) ∧ Aside0 (Below w.heap.size w wc))
    case first =>
      have H := HC3.out
      clear HC3
      by_cases c4 : a0 < 0
      · rw [if_pos c4] at H
        have c4b0 : decide (a0 < 0) = true := decide_eq_true c4
        clear c4
        (first | rw [c4b0] | (simp only [i64_w, i32_w]; rw [c4b0]) | skip)
        have H' := Aside0.mk H
        clear H
        go_wp2
        go_meet
        case rel => exact ⟨_, (IntKind.u64.wrap (-(IntKind.u64.wrap (a0)))), (by first | rfl | (simp; done) | (simp [*]; done)), H', ⟨by first | omega | exact Nat.le_refl _⟩, ⟨by repeat (first | (with_reducible first | exact HB.out | apply below_alloc | apply pw_below_drewN | apply below_drew1) | exact HB.out)⟩⟩
      · rw [if_neg c4] at H
        have c4b0 : decide (a0 < 0) = false := decide_eq_false c4
        clear c4
        (first | rw [c4b0] | (simp only [i64_w, i32_w]; rw [c4b0]) | skip)
        have H' := Aside0.mk H
        clear H
        go_wp2
        go_meet
        case rel => exact ⟨_, (IntKind.u64.wrap (a0)), (by first | rfl | (simp; done) | (simp [*]; done)), H', ⟨by first | omega | exact Nat.le_refl _⟩, ⟨by repeat (first | (with_reducible first | exact HB.out | apply below_alloc | apply pw_below_drewN | apply below_drew1) | exact HB.out)⟩⟩
    case rest =>
      clear HC3
      try clear c2
      try clear c2b0
      try clear c2b1
      try clear p2
      try clear c4
      try clear c4b0
      obtain ⟨kq, x3_2, rfl, HA, HJ2, HB⟩ := hcut
      cases kq with
      | zero => exact absurd HA.out (by simp [parapetref1_Decimal.j0])
      | succ kj2 =>
        have H := HA.out
        clear HA
        simp only [parapetref1_Decimal.j0] at H
        have H' := Aside0.mk H
        clear H
        go_wp2
        go_loopg [3, 4] kj2 (fun kq v3 v4 w' => ∃ (x3_2 : Int) (x4_2 : List Int), v3 = .int .u64 x3_2 ∧ Aside0 (parapetref1_Decimal.l0 kq a0 x3_2 x4_2 = some r) ∧ Aside0 (kq ≤ kj2) ∧ Aside0 (Kd.R (Kd.int .u8) 5 w' w.heap.size (fun _ => True) v4 x4_2) ∧ Aside0 (Below w.heap.size w w'))
        case atStart => exact ⟨(x3_2), (([] : List Int)), (by first | rfl | (simp; done) | (simp [*]; done)), H', ⟨Nat.le_refl _⟩, ⟨by first | exact Kd.R_nil _ _ _ _ _ | exact Kd.N_nil _ _ _ _ _ | exact Kd.V_nil _ _ _ _ _ | exact Kd.Q_nil _ _ _ _ _ | exact Kd.S_nil _ _ _ _ _⟩, ⟨by repeat (first | (with_reducible first | exact HB.out | apply below_alloc | apply pw_below_drewN | apply below_drew1) | exact HB.out)⟩⟩
        case round =>
          clear H'
          try clear c2
          try clear c2b0
          try clear c2b1
          try clear p2
          try clear c4
          try clear c4b0
          try clear p2
          obtain ⟨x3_2, x4_2, rfl, HA, HK2, HO_4, HB⟩ := hrel
          cases gk with
          | zero => exact absurd HA.out (by simp [parapetref1_Decimal.l0])
          | succ k2 =>
            have H := HA.out
            clear HA
            simp only [parapetref1_Decimal.l0] at H
            by_cases c5 : x3_2 > 0
            · rw [if_pos c5] at H
              have c5b0 : decide (0 < x3_2) = true := decide_eq_true c5
              clear c5
              by_cases c6 : x4_2.length < 140737488355328
              · rw [if_pos c6] at H
                have LMc6 := Aside0.mk c6
                clear c6
                obtain ⟨y204, hy204⟩ : ∃ y_ : List Int, y_ = (x4_2 ++ [(IntKind.u64.wrap (48 + (Int.tmod x3_2 10))) % 256]) := ⟨_, rfl⟩
                replace H : (parapetref1_Decimal.l0 k2 a0 (IntKind.u64.wrap (Int.tdiv x3_2 10)) y204) = some r := by first | (rw [hy204]; with_reducible exact H) | (have H2_ := (Option.bind_some _ _).symm.trans H; rw [hy204]; with_reducible exact H2_) | (have H2_ := (Option.bind_some _ _).symm.trans H; with_reducible exact H2_) | with_reducible exact H | (rw [hy204]; exact H) | exact H
                have Ny204 := Aside0.mk hy204
                clear hy204
                have H' := Aside0.mk H
                clear H
                go_wp2_with (first | ((with_reducible refine gate_builtin (b := .append) (xs := #[.tmp 17, .tmp 22]) rfl ?_); at_builtin; refine Kd.R_append (Kd.int .u8) (w0 := w) w.heap.size rfl (.tmp 17) (.tmp 22) 46 5 (.int .u8 0) 1 rfl Tryz.underlying46 info5 rfl (by decide) (by omega) u4 x4_2 ((IntKind.u64.wrap (48 + (Int.tmod x3_2 10))) % 256) [.int .u8 ((IntKind.u64.wrap (48 + (Int.tmod x3_2 10))) % 256)] (fun _ => True) (fun _ => False) rfl rfl ?aP (fun _ hk => hk.elim) ?aF ?aO ?aB ?aS ?aL ?_; (case aP => exact rfl); (case aB => exact (by repeat (first | (with_reducible first | exact HB.out | apply below_alloc | apply pw_below_drewN | apply below_drew1) | exact HB.out))); (case aF => exact (fun _ _ => trivial)); (case aO => exact (by (with_reducible repeat (first | apply Kd.R_alloc | apply Kd.R_drewN | apply Kd.R_drew)); exact HO_4.out)); (case aS => exact (below_size (by repeat (first | (with_reducible first | exact HB.out | apply below_alloc | apply pw_below_drewN | apply below_drew1) | exact HB.out)))); (case aL => have := LMc6.out; omega); intro v205 w7 ho hb hg hat; rw [← Ny204.out] at ho; have n0_ := Aside0.mk (hb); have n1_ := Aside0.mk (ho); clear HB; clear HO_4; have HB := n0_; have HO206 := n1_; clear n0_ n1_; clear ho hb hg hat))
                go_roundg k2
                case measure => have := HJ2.out; have := HK2.out; omega
                case rel => exact ⟨(IntKind.u64.wrap (Int.tdiv x3_2 10)), (y204), (by first | rfl | (simp; done) | (simp [*]; done)), H', ⟨by have := HJ2.out; have := HK2.out; omega⟩, ⟨by (with_reducible repeat (first | apply Kd.R_alloc | apply Kd.R_drewN | apply Kd.R_drew)); exact HO206.out⟩, ⟨by repeat (first | (with_reducible first | exact HB.out | apply below_alloc | apply pw_below_drewN | apply below_drew1) | exact HB.out)⟩⟩
              · rw [if_neg c6] at H
                exact absurd H (by simp)
            · rw [if_neg c5] at H
              have c5b0 : decide (0 < x3_2) = false := decide_eq_false c5
              clear c5
              have HC8 := Aside0.mk H
              clear H
              go_upto_if 27 with (fail)
              go_cut [5] (fun v5 wc => ∃ (kq : Nat) (x5_7 : List Int), Aside0 (parapetref1_Decimal.j2 kq x4_2 x5_7 = some r) ∧ Aside0 (kq ≤ k2) ∧ Aside0 (Kd.R (Kd.int .u8) 5 wc w.heap.size (fun k_ => some k_ ≠ (v5 : Value).ownBlock) u4 x4_2) ∧ Aside0 (Kd.R (Kd.int .u8) 5 wc w.heap.size (fun k_ => some k_ ≠ (u4 : Value).ownBlock) v5 x5_7) ∧ Aside0 (Below w.heap.size w wc))
              case first =>
                have H := HC8.out
                clear HC8
                by_cases c9 : a0 < 0
                · rw [if_pos c9] at H
                  have c9b0 : decide (a0 < 0) = true := decide_eq_true c9
                  clear c9
                  (first | rw [c9b0] | (simp only [i64_w, i32_w]; rw [c9b0]) | skip)
                  by_cases c10 : ([] : List Int).length < 140737488355328
                  · rw [if_pos c10] at H
                    have LMc10 := Aside0.mk c10
                    clear c10
                    obtain ⟨y207, hy207⟩ : ∃ y_ : List Int, y_ = (([] : List Int) ++ [45]) := ⟨_, rfl⟩
                    replace H : (parapetref1_Decimal.j2 k2 x4_2 y207) = some r := by first | (rw [hy207]; with_reducible exact H) | (have H2_ := (Option.bind_some _ _).symm.trans H; rw [hy207]; with_reducible exact H2_) | (have H2_ := (Option.bind_some _ _).symm.trans H; with_reducible exact H2_) | with_reducible exact H | (rw [hy207]; exact H) | exact H
                    have Ny207 := Aside0.mk hy207
                    clear hy207
                    have H' := Aside0.mk H
                    clear H
                    go_wp2_with (first | ((with_reducible refine gate_builtin (b := .append) (xs := #[.tmp 28, .tmp 29]) rfl ?_); at_builtin; refine Kd.R_append (Kd.int .u8) (w0 := w) w.heap.size rfl (.tmp 28) (.tmp 29) 46 5 (.int .u8 0) 1 rfl Tryz.underlying46 info5 rfl (by decide) (by omega) (.slice none 0 0) ([] : List Int) 45 [.int .u8 45] (fun k_ => some k_ ≠ (u4 : Value).ownBlock) (fun _ => False) rfl rfl ?aP (fun _ hk => hk.elim) ?aF ?aO ?aB ?aS ?aL ?_; (case aP => exact rfl); (case aB => exact (by repeat (first | (with_reducible first | exact HB.out | apply below_alloc | apply pw_below_drewN | apply below_drew1) | exact HB.out))); (case aF => exact (fun k_ hk => Kd.fresh' (Kd.R_lt (by (with_reducible repeat (first | apply Kd.R_alloc | apply Kd.R_drewN | apply Kd.R_drew)); exact HO_4.out)) k_ hk)); (case aO => exact ((Kd.R_nil _ _ _ _ (fun k_ => some k_ ≠ (u4 : Value).ownBlock)))); (case aS => exact (below_size (by repeat (first | (with_reducible first | exact HB.out | apply below_alloc | apply pw_below_drewN | apply below_drew1) | exact HB.out)))); (case aL => have := LMc10.out; omega); intro v208 w11 ho hb hg hat; rw [← Ny207.out] at ho; have n0_ := Aside0.mk (Kd.R_after (Kd.R_apart_nil (by (with_reducible repeat (first | apply Kd.R_alloc | apply Kd.R_drewN | apply Kd.R_drew)); exact HO_4.out)) hg hat); have n1_ := Aside0.mk (hb); have n2_ := Aside0.mk (ho); clear HO_4; clear HB; have HO_4 := n0_; have HB := n1_; have HO209 := n2_; clear n0_ n1_ n2_; clear ho hb hg hat))
                    go_meet
                    case rel => exact ⟨_, (y207), H', ⟨by have := HJ2.out; have := HK2.out; first | omega | exact Nat.le_refl _⟩, ⟨by (with_reducible repeat (first | apply Kd.R_alloc | apply Kd.R_drewN | apply Kd.R_drew)); exact Kd.R_mono HO_4.out (fun _ hk => hk.2)⟩, ⟨by (with_reducible repeat (first | apply Kd.R_alloc | apply Kd.R_drewN | apply Kd.R_drew)); exact HO209.out⟩, ⟨by repeat (first | (with_reducible first | exact HB.out | apply below_alloc | apply pw_below_drewN | apply below_drew1) | exact HB.out)⟩⟩
                  · rw [if_neg c10] at H
                    exact absurd H (by simp)
                · rw [if_neg c9] at H
                  have c9b0 : decide (a0 < 0) = false := decide_eq_false c9
                  clear c9
                  (first | rw [c9b0] | (simp only [i64_w, i32_w]; rw [c9b0]) | skip)
                  have H' := Aside0.mk H
                  clear H
                  go_wp2
                  go_meet
                  case rel => exact ⟨_, (([] : List Int)), H', ⟨by have := HJ2.out; have := HK2.out; first | omega | exact Nat.le_refl _⟩, ⟨by (with_reducible repeat (first | apply Kd.R_alloc | apply Kd.R_drewN | apply Kd.R_drew)); exact Kd.R_mono HO_4.out (fun _ hk => (by simp [Value.ownBlock]))⟩, ⟨by first | exact Kd.R_nil _ _ _ _ _ | exact Kd.N_nil _ _ _ _ _ | exact Kd.V_nil _ _ _ _ _ | exact Kd.Q_nil _ _ _ _ _ | exact Kd.S_nil _ _ _ _ _⟩, ⟨by repeat (first | (with_reducible first | exact HB.out | apply below_alloc | apply pw_below_drewN | apply below_drew1) | exact HB.out)⟩⟩
              case rest =>
                clear HC8
                try clear c1
                try clear c2
                try clear c2b0
                try clear c2b1
                try clear p2
                try clear c4
                try clear c4b0
                try clear c5
                try clear c5b0
                try clear c6
                try clear c7
                try clear c9
                try clear c9b0
                try clear c10
                try clear p2
                obtain ⟨kq, x5_7, HA, HJ7, HO_4, HO_5, HB⟩ := hcut
                cases kq with
                | zero => exact absurd HA.out (by simp [parapetref1_Decimal.j2])
                | succ kj7 =>
                  have H := HA.out
                  clear HA
                  simp only [parapetref1_Decimal.j2] at H
                  have H' := Aside0.mk H
                  clear H
                  obtain ⟨Ao12, co12, eo12⟩ := Kd.R_slice HO_4.out
                  subst eo12
                  go_wp2
                  go_loopg [5, 6] kj7 (fun kq v5 v6 w' => ∃ (x5_4 : List Int) (x6_4 : Int), v6 = .int .i64 x6_4 ∧ Aside0 (parapetref1_Decimal.l1 kq x4_2 x5_4 x6_4 = some r) ∧ Aside0 (kq ≤ kj7) ∧ Aside0 (Kd.R (Kd.int .u8) 5 w' w.heap.size (fun k_ => some k_ ≠ (v5 : Value).ownBlock) (.slice Ao12 x4_2.length co12) x4_2) ∧ Aside0 (Kd.R (Kd.int .u8) 5 w' w.heap.size (fun k_ => some k_ ≠ ((.slice Ao12 x4_2.length co12) : Value).ownBlock) v5 x5_4) ∧ Aside0 (Below w.heap.size w w'))
                  case atStart => exact ⟨(x5_7), (wrap64 ((x4_2.length : Int) - 1)), (by first | rfl | (simp; done) | (simp [*]; done)), H', ⟨Nat.le_refl _⟩, ⟨by (with_reducible repeat (first | apply Kd.R_alloc | apply Kd.R_drewN | apply Kd.R_drew)); exact HO_4.out⟩, ⟨by (with_reducible repeat (first | apply Kd.R_alloc | apply Kd.R_drewN | apply Kd.R_drew)); exact HO_5.out⟩, ⟨by repeat (first | (with_reducible first | exact HB.out | apply below_alloc | apply pw_below_drewN | apply below_drew1) | exact HB.out)⟩⟩
                  case round =>
                    clear H'
                    try clear c1
                    try clear c2
                    try clear c2b0
                    try clear c2b1
                    try clear p2
                    try clear c4
                    try clear c4b0
                    try clear c5
                    try clear c5b0
                    try clear c6
                    try clear p6
                    try clear c7
                    try clear c9
                    try clear c9b0
                    try clear c10
                    try clear p2
                    obtain ⟨x5_4, x6_4, rfl, HA, HK4, HO_4, HO_5, HB⟩ := hrel
                    cases gk with
                    | zero => exact absurd HA.out (by simp [parapetref1_Decimal.l1])
                    | succ k4 =>
                      have H := HA.out
                      clear HA
                      simp only [parapetref1_Decimal.l1] at H
                      by_cases c13 : x6_4 ≥ 0
                      · rw [if_pos c13] at H
                        have c13b0 : decide (0 ≤ x6_4) = true := decide_eq_true c13
                        clear c13
                        by_cases c14 : 0 ≤ x6_4
                        · rw [if_pos c14] at H
                          have c14b0 : decide (0 ≤ x6_4) = true := decide_eq_true c14
                          clear c14
                          by_cases c15 : x6_4 < (x4_2.length : Int)
                          · rw [if_pos c15] at H
                            have c15b0 : decide (x6_4 < (x4_2.length : Int)) = true := decide_eq_true c15
                            clear c15
                            by_cases c16 : x5_4.length < 140737488355328
                            · rw [if_pos c16] at H
                              have LMc16 := Aside0.mk c16
                              clear c16
                              obtain ⟨y211, hy211⟩ : ∃ y_ : List Int, y_ = (x5_4 ++ [rd x4_2 x6_4]) := ⟨_, rfl⟩
                              replace H : (parapetref1_Decimal.l1 k4 x4_2 y211 (wrap64 (x6_4 - 1))) = some r := by first | (rw [hy211]; with_reducible exact H) | (have H2_ := (Option.bind_some _ _).symm.trans H; rw [hy211]; with_reducible exact H2_) | (have H2_ := (Option.bind_some _ _).symm.trans H; with_reducible exact H2_) | with_reducible exact H | (rw [hy211]; exact H) | exact H
                              have Ny211 := Aside0.mk hy211
                              clear hy211
                              have H' := Aside0.mk H
                              clear H
                              have p210 : 0 ≤ (x6_4 : Int) := of_decide_eq_true (by first | (with_reducible assumption) | assumption)
                              have q210 : x6_4 < (x4_2.length : Int) := of_decide_eq_true (by first | (with_reducible assumption) | assumption)
                              obtain ⟨ad210, e210, hx210_0⟩ := Kd.at_int (Kd.R_reads' HO_4.out).2.2 x6_4 p210 q210
                              cases e210
                              replace p210 := eq_true p210
                              replace q210 := eq_true q210
                              go_wp2_with (first | ((with_reducible refine gate_builtin (b := .append) (xs := #[.tmp 38, .tmp 43]) rfl ?_); at_builtin; refine Kd.R_append (Kd.int .u8) (w0 := w) w.heap.size rfl (.tmp 38) (.tmp 43) 46 5 (.int .u8 0) 1 rfl Tryz.underlying46 info5 rfl (by decide) (by omega) u5 x5_4 (rd x4_2 x6_4) [.int .u8 (rd x4_2 x6_4)] (fun k_ => some k_ ≠ (.slice (some ad210) x4_2.length co12 : Value).ownBlock) (fun _ => False) rfl rfl ?aP (fun _ hk => hk.elim) ?aF ?aO ?aB ?aS ?aL ?_; (case aP => exact rfl); (case aB => exact (by repeat (first | (with_reducible first | exact HB.out | apply below_alloc | apply pw_below_drewN | apply below_drew1) | exact HB.out))); (case aF => exact (fun k_ hk => Kd.fresh' (Kd.R_lt (by (with_reducible repeat (first | apply Kd.R_alloc | apply Kd.R_drewN | apply Kd.R_drew)); exact HO_4.out)) k_ hk)); (case aO => exact (by (with_reducible repeat (first | apply Kd.R_alloc | apply Kd.R_drewN | apply Kd.R_drew)); exact HO_5.out)); (case aS => exact (below_size (by repeat (first | (with_reducible first | exact HB.out | apply below_alloc | apply pw_below_drewN | apply below_drew1) | exact HB.out)))); (case aL => have := LMc16.out; omega); intro v212 w17 ho hb hg hat; rw [← Ny211.out] at ho; have n0_ := Aside0.mk (Kd.R_after (ok := (fun _ => True)) (by (with_reducible repeat (first | apply Kd.R_alloc | apply Kd.R_drewN | apply Kd.R_drew)); exact Kd.R_mono HO_4.out (fun _ hk => ⟨trivial, hk⟩)) hg hat); have n1_ := Aside0.mk (hb); have n2_ := Aside0.mk (ho); clear HO_4; clear HB; clear HO_5; have HO_4 := n0_; have HB := n1_; have HO213 := n2_; clear n0_ n1_ n2_; clear ho hb hg hat))
                              go_roundg k4
                              case measure => have := HJ2.out; have := HK2.out; have := HJ7.out; have := HK4.out; omega
                              case rel => exact ⟨(y211), (wrap64 (x6_4 - 1)), (by first | rfl | (simp; done) | (simp [*]; done)), H', ⟨by have := HJ2.out; have := HK2.out; have := HJ7.out; have := HK4.out; omega⟩, ⟨by (with_reducible repeat (first | apply Kd.R_alloc | apply Kd.R_drewN | apply Kd.R_drew)); exact Kd.R_mono HO_4.out (fun _ hk => hk.2)⟩, ⟨by (with_reducible repeat (first | apply Kd.R_alloc | apply Kd.R_drewN | apply Kd.R_drew)); exact HO213.out⟩, ⟨by repeat (first | (with_reducible first | exact HB.out | apply below_alloc | apply pw_below_drewN | apply below_drew1) | exact HB.out)⟩⟩
                            · rw [if_neg c16] at H
                              exact absurd H (by simp)
                          · rw [if_neg c15] at H
                            exact absurd H (by simp)
                        · rw [if_neg c14] at H
                          exact absurd H (by simp)
                      · rw [if_neg c13] at H
                        have c13b0 : decide (0 ≤ x6_4) = false := decide_eq_false c13
                        clear c13
                        obtain rfl := Option.some.inj H
                        have hcv18 := own_string (P := Tryz.prog) Tryz.underlying46 Tryz.underlying5 Tryz.underlying9 (Kd.own_of_R HO_5.out)
                        go_wp2
                        go_ret
                        exact ⟨by first | rfl | (simp [errW_none, errW_some] <;> rfl) | (simp [*, errW_none, errW_some] <;> rfl), by repeat (first | (with_reducible first | exact HB.out | apply below_alloc | apply pw_below_drewN | apply below_drew1) | exact HB.out)⟩
end Go.Proofs.YtcmcopieagpppaaGreatDoor.P
namespace Go.Proofs.YtcmcopieagpppaaGreatDoor.P
open Go.RowKit Go.Proofs.YtcmcopieagpppaaGreatDoorW.PrintWords Go.Proofs.YtcmcopieagpppaaGreatDoorW.PrintLast Go.Proofs.YtcmcopieagpppaaGreatDoorW.PrintMore
set_option linter.unusedVariables false
set_option linter.unusedSimpArgs false
theorem splitOn_ne (c : UInt8) : ∀ l, Web.splitOn c l ≠ []
  | [] => by simp [Web.splitOn]
  | b :: t => by
    unfold Web.splitOn
    split
    · simp
    · split <;> simp
theorem splitOn_len (c : UInt8) : ∀ l, (Web.splitOn c l).length ≤ l.length + 1
  | [] => by simp [Web.splitOn]
  | b :: t => by
    have ih := splitOn_len c t
    unfold Web.splitOn
    split
    · simp; omega
    · split
      · simp
      · rename_i h; rw [h] at ih; simp at ih ⊢; omega
theorem splitOn_pos (c : UInt8) (l : List UInt8) : 1 ≤ (Web.splitOn c l).length := by
  have := splitOn_ne c l
  cases h : Web.splitOn c l with
  | nil => exact absurd h this
  | cons a r => simp
theorem splitOn_piece (c : UInt8) : ∀ (l : List UInt8) (p : List UInt8), p ∈ Web.splitOn c l → p.length ≤ l.length
  | [], p, h => by simp [Web.splitOn] at h; subst h; simp
  | b :: t, p, h => by
    have ih := splitOn_piece c t
    unfold Web.splitOn at h
    split at h
    · rcases List.mem_cons.1 h with rfl | h
      · simp
      · have := ih p h; simp; omega
    · split at h
      · simp at h; subst h; simp
      · rename_i a r e
        rw [e] at ih
        rcases List.mem_cons.1 h with rfl | h
        · have := ih a (by simp); simp; omega
        · have := ih p (by simp [h]); simp; omega
theorem rdOf_ba (L : List (List UInt8)) (i : Nat) (h : i < L.length) : rdOf ByteArray.empty (L.map ba) (i : Int) = ba L[i] := by
  unfold rdOf
  simp [List.getD_eq_getElem?_getD, List.getElem?_eq_getElem h]
theorem getLast_at {α : Type} (L : List α) (h : L ≠ []) : L.getLast? = some (L[L.length - 1]'(by have := List.length_pos_iff.2 h; omega)) := by
  rw [List.getLast?_eq_getElem?, List.getElem?_eq_getElem]
theorem partsOf_def (l : List UInt8) : Web.partsOf l = if 1 < (Web.splitOn 46 l).length ∧ (Web.splitOn 46 l).getLast? = some [] then (Web.splitOn 46 l).dropLast else Web.splitOn 46 l := rfl
theorem partsOf_ne (l : List UInt8) : Web.partsOf l ≠ [] := by
  rw [partsOf_def]
  have := splitOn_ne 46 l
  split
  · rename_i h
    intro e
    have := congrArg List.length e
    rw [List.length_dropLast] at this
    simp at this
    omega
  · exact this
theorem partsOf_piece (l : List UInt8) (p : List UInt8) (h : p ∈ Web.partsOf l) : p.length ≤ l.length := by
  rw [partsOf_def] at h
  split at h
  · exact splitOn_piece 46 l p (List.dropLast_subset _ h)
  · exact splitOn_piece 46 l p h
theorem hexI_V (c : UInt8) : hexI (c.toNat : Int) = match Web.hexV c with
    | some v => (v : Int)
    | none => -1 := by
  unfold hexI Web.hexV
  have := c.toNat_lt
  by_cases h1 : 48 ≤ c.toNat ∧ c.toNat ≤ 57
  · rw [if_pos (by omega), if_pos h1]; simp; omega
  by_cases h2 : 97 ≤ c.toNat ∧ c.toNat ≤ 102
  · rw [if_neg (by omega), if_pos (by omega), if_neg h1, if_pos h2]; simp; omega
  by_cases h3 : 65 ≤ c.toNat ∧ c.toNat ≤ 70
  · rw [if_neg (by omega), if_neg (by omega), if_pos (by omega), if_neg h1, if_neg h2, if_pos h3]; simp; omega
  rw [if_neg (by omega), if_neg (by omega), if_neg (by omega), if_neg h1, if_neg h2, if_neg h3]
theorem hexV_lt (c : UInt8) (v : Nat) (h : Web.hexV c = some v) : v < 16 := by
  unfold Web.hexV at h
  repeat' split at h
  all_goals first | (injection h with h; omega) | cases h
theorem value_snoc (b : Nat) (l : List UInt8) (c : UInt8) : Web.value b (l ++ [c]) = b * Web.value b l + (Web.hexV c).getD 0 := by
  simp [Web.value, List.foldl_append]
theorem value_from (b : Nat) (l : List UInt8) : ∀ n, l.foldl (fun n c => b * n + (Web.hexV c).getD 0) n ≥ n * b ^ l.length := by
  induction l with
  | nil => intro n; simp
  | cons c t ih =>
    intro n
    rw [List.foldl_cons, List.length_cons]
    refine Nat.le_trans ?_ (ih _)
    rw [Nat.pow_succ]
    calc n * (b ^ t.length * b) = (b * n) * b ^ t.length := by rw [Nat.mul_comm (b ^ t.length), ← Nat.mul_assoc, Nat.mul_comm n b]
      _ ≤ _ := Nat.mul_le_mul_right _ (Nat.le_add_right _ _)
theorem value_mono (b : Nat) (hb : 1 ≤ b) (l : List UInt8) (i : Nat) : Web.value b (l.take i) ≤ Web.value b l := by
  have h := value_from b (l.drop i) (Web.value b (l.take i))
  have e : Web.value b l = (l.drop i).foldl (fun n c => b * n + (Web.hexV c).getD 0) (Web.value b (l.take i)) := by
    unfold Web.value
    rw [← List.foldl_append, List.take_append_drop]
  rw [e]
  refine Nat.le_trans ?_ h
  exact Nat.le_mul_of_pos_right _ (Nat.pow_pos hb)
theorem allDig_at {b : Nat} {l : List UInt8} (h : Web.allDig b l = true) (i : Nat) (hi : i < l.length) : ∃ v, Web.hexV l[i] = some v ∧ v < b := by
  unfold Web.allDig at h
  rw [List.all_eq_true] at h
  have := h l[i] (List.getElem_mem hi)
  cases e : Web.hexV l[i] with
  | none => rw [e] at this; cases this
  | some v => rw [e] at this; exact ⟨v, rfl, by simpa using this⟩
theorem u64_small {x : Int} (h0 : 0 ≤ x) (h1 : x < 18446744073709551616) : IntKind.u64.wrap x = x := by
  rw [IntKind.wrap_u64]
  omega
def partP (l : List UInt8) : Int × Bool := match Web.part l with
  | some n => ((n : Int), true)
  | none => (0, false)
theorem hexTail_two (a b : UInt8) (t : List UInt8) : Web.hexTail (a :: b :: t) = if a = 48 ∧ (b = 120 ∨ b = 88) then some t else none := rfl
theorem part_hex (a b : UInt8) (t : List UInt8) (h : a = 48 ∧ (b = 120 ∨ b = 88)) : partP (a :: b :: t) = if Web.allDig 16 t = true ∧ Web.value 16 t < 4294967296 then ((Web.value 16 t : Int), true) else (0, false) := by
  unfold partP Web.part
  rw [hexTail_two, if_pos h]
  simp only []
  rw [if_neg (by simp)]
  cases e : Web.allDig 16 t with
  | false => simp
  | true =>
    by_cases h3 : Web.value 16 t < 4294967296 <;> simp [h3]
theorem part_oct (b : UInt8) (t : List UInt8) (h : ¬ (b = 120 ∨ b = 88)) : partP (48 :: b :: t) = if Web.allDig 8 (b :: t) = true ∧ Web.value 8 (b :: t) < 4294967296 then ((Web.value 8 (b :: t) : Int), true) else (0, false) := by
  unfold partP Web.part
  rw [hexTail_two, if_neg (by simp [h])]
  simp only []
  rw [if_neg (by simp)]
  cases e : Web.allDig 8 (b :: t) with
  | false => simp
  | true =>
    by_cases h3 : Web.value 8 (b :: t) < 4294967296 <;> simp [h3]
theorem part_dec (l : List UInt8) (h : ∀ b t, l ≠ 48 :: b :: t) : partP l = if Web.allDig 10 l = true ∧ l ≠ [] ∧ Web.value 10 l < 4294967296 then ((Web.value 10 l : Int), true) else (0, false) := by
  unfold partP Web.part
  have ht : Web.hexTail l = none := by
    unfold Web.hexTail
    split
    · rename_i a b t
      rw [if_neg]
      rintro ⟨rfl, _⟩
      exact h b t rfl
    · rfl
  have hm : (match l with
      | 48 :: b :: t => (8, b :: t)
      | _ => (10, l)) = (10, l) := by
    split
    · rename_i b t; exact absurd rfl (h b t)
    · rfl
  rw [ht]
  simp only [hm]
  by_cases h2 : l = []
  · subst h2; simp
  · rw [if_neg h2]
    cases e : Web.allDig 10 l with
    | false => simp
    | true =>
      by_cases h3 : Web.value 10 l < 4294967296 <;> simp [h2, h3]
theorem part_lt (l : List UInt8) (n : Nat) (h : Web.part l = some n) : n < 4294967296 := by
  have e : partP l = ((n : Int), true) := by unfold partP; rw [h]
  have key : ∀ (c : Prop) [Decidable c] (v : Nat), (c → v < 4294967296) → (if c then ((v : Int), true) else (0, false)) = ((n : Int), true) → n < 4294967296 := by
    intro c _ v hv hh
    split at hh
    · rename_i hc
      simp only [Prod.mk.injEq, and_true] at hh
      have := hv hc
      omega
    · simp at hh
  match l, e with
  | [], e => rw [part_dec [] (by simp)] at e; exact key _ _ (fun h => h.2.2) e
  | [a], e => rw [part_dec [a] (by simp)] at e; exact key _ _ (fun h => h.2.2) e
  | a :: b :: t, e =>
    by_cases hx : a = 48 ∧ (b = 120 ∨ b = 88)
    · rw [part_hex a b t hx] at e; exact key _ _ (fun h => h.2) e
    · by_cases ha : a = 48
      · subst ha
        rw [part_oct b t (fun h => hx ⟨rfl, h⟩)] at e; exact key _ _ (fun h => h.2) e
      · rw [part_dec _ (by rintro b' t' e'; injection e' with e' _; exact ha e')] at e; exact key _ _ (fun h => h.2.2) e
end Go.Proofs.YtcmcopieagpppaaGreatDoor.P
namespace Go.Proofs.YtcmcopieagpppaaGreatDoor.P
open Go.RowKit Go.Proofs.YtcmcopieagpppaaGreatDoorW.PrintWords Go.Proofs.YtcmcopieagpppaaGreatDoorW.PrintLast Go.Proofs.YtcmcopieagpppaaGreatDoorW.PrintMore
attribute [local go_sem] max2_int min2_int max_two min_two max_three min_three max_four min_four
set_option linter.unusedVariables false
set_option linter.unusedSimpArgs false
def slices_Reverse_byte_byte.l0 : Nat → List Int → Int → Int → Option (List Int)
  | 0, _, _, _ => none
  | k + 1, x0, x2, x3 => if x2 < x3 then (if 0 ≤ x3 then (if x3 < (x0.length : Int) then (if 0 ≤ x2 then (if x2 < (x0.length : Int) then (slices_Reverse_byte_byte.l0 k ((x0.set (x2 : Int).toNat (rd x0 x3)).set (x3 : Int).toNat (rd x0 x2)) (wrap64 (x2 + 1)) (wrap64 (x3 - 1))) else (none)) else (none)) else (none)) else (none)) else (some x0)
def slices_Reverse_byte_byte.f (k : Nat) (l0 : List Int) : Option (List Int) := slices_Reverse_byte_byte.l0 k l0 0 (wrap64 ((l0.length : Int) - 1))
def slices_Reverse_byte_byte.T3 : Bool × List (List Nat × List Nat) := (true, [([], []), ([], []), ([], []), ([], []), ([], []), ([], []), ([4, 5], [4, 5]), ([6], [6]), ([], []), ([], []), ([8, 9], [8, 9]), ([10], [10]), ([0, 1, 0, 1, 4, 5, 6, 7, 11], [0, 1]), ([12, 7, 0, 1, 4, 5, 6, 7, 11], [7, 12]), ([2, 3, 0, 1, 2, 3, 4, 5, 6, 7, 8, 9, 10, 11, 12, 13], [2, 3]), ([14, 11, 13, 0, 1, 2, 3, 4, 5, 6, 7, 8, 9, 10, 11, 12, 13], [11, 14])])
def slices_Reverse_byte_byte.B3 : List Nat := [0, 0, 0, 0, 0, 0, 48, 112, 0, 0, 768, 1792, 4083, 8179, 16383, 32767]
theorem slices_Reverse_byte_byte.tab3 : rtab .any (opsOf Tryz.f103 3) = slices_Reverse_byte_byte.T3 := by kernel_rfl
theorem slices_Reverse_byte_byte.bits3 : waitsOk slices_Reverse_byte_byte.T3.2 slices_Reverse_byte_byte.B3 = true := by kernel_rfl
set_option maxHeartbeats 8000000 in
set_option maxRecDepth 100000 in
theorem slices_Reverse_byte_byte.calls (k : Nat) (P0_ : Nat → Prop) (u9000_ : Value) (l0 : List Int) (r : List Int) (w0 w : World) (hB : Below w0.heap.size w0 w) (ho0 : Kd.R (Kd.int .u8) 5 w w0.heap.size P0_ u9000_ l0) (h : slices_Reverse_byte_byte.f k l0 = some r) :
    Calls Tryz.prog 103 #[u9000_] w fun e w' => e = .returned (.tuple #[]) ∧ Kd.R (Kd.int .u8) 5 w' w0.heap.size (fun k_ => (P0_ k_ ∨ w.heap.size ≤ k_)) u9000_ r ∧ Below w0.heap.size w0 w' ∧ Kept w w' (fun k_ => P0_ k_) := by
  have HO0 := Aside0.mk (show Kd.R (Kd.int .u8) 5 w w0.heap.size (fun k_ => (P0_ k_ ∨ w.heap.size ≤ k_)) u9000_ l0 from Kd.R_mono ho0 (fun k_ hk => (.inl hk)))
  have HK := Aside0.mk (Kept.refl w (fun k_ => P0_ k_))
  have HW0 := Aside0.mk hB.size
  have HB := Aside0.mk hB
  clear hB
  have H : (slices_Reverse_byte_byte.l0 k l0 0 (wrap64 ((l0.length : Int) - 1))) = some r := h
  clear h
  have H' := Aside0.mk H
  clear H
  obtain ⟨Ao2, co2, eo2⟩ := Kd.R_slice HO0.out
  subst eo2
  go_enter Tryz.func103, Tryz.ntmps103
  go_wp2
  go_loopg [2, 3] k (fun kq v2 v3 w' => ∃ (x0_1 : List Int) (x2_1 : Int) (x3_1 : Int), v2 = .int .i64 x2_1 ∧ v3 = .int .i64 x3_1 ∧ Aside0 (slices_Reverse_byte_byte.l0 kq x0_1 x2_1 x3_1 = some r) ∧ Aside0 (kq ≤ k) ∧ Aside0 (Kd.R (Kd.int .u8) 5 w' w0.heap.size (fun k_ => (P0_ k_ ∨ w.heap.size ≤ k_)) (.slice Ao2 l0.length co2) x0_1) ∧ Aside0 (Kept w w' (fun k_ => P0_ k_)) ∧ Aside0 (Below w0.heap.size w0 w'))
  case atStart => exact ⟨(l0), (0), (wrap64 ((l0.length : Int) - 1)), (by first | rfl | (simp; done) | (simp [*]; done)), (by first | rfl | (simp; done) | (simp [*]; done)), H', ⟨Nat.le_refl _⟩, ⟨by (with_reducible repeat (first | apply Kd.R_alloc | apply Kd.R_drewN | apply Kd.R_drew)); exact HO0.out⟩, ⟨by repeat (first | (with_reducible first | exact HK.out | apply Kept.alloc | apply Kept.drewN | apply Kept.drew) | exact HK.out)⟩, ⟨by repeat (first | (with_reducible first | exact HB.out | apply below_alloc | apply pw_below_drewN | apply below_drew1) | exact HB.out)⟩⟩
  case round =>
    clear H'
    try clear c1
    try clear p2
    obtain ⟨x0_1, x2_1, x3_1, rfl, rfl, HA, HK1, HO_0, HK, HB⟩ := hrel
    have hl0_1 := (Kd.R_reads' HO_0.out).1
    rw [hl0_1] at HO_0
    (try simp only [hl0_1])
    cases gk with
    | zero => exact absurd HA.out (by simp [slices_Reverse_byte_byte.l0])
    | succ k1 =>
      have H := HA.out
      clear HA
      simp only [slices_Reverse_byte_byte.l0] at H
      by_cases c3 : x2_1 < x3_1
      · rw [if_pos c3] at H
        have c3b0 : decide (x2_1 < x3_1) = true := decide_eq_true c3
        clear c3
        by_cases c4 : 0 ≤ x3_1
        · rw [if_pos c4] at H
          have c4b0 : decide (0 ≤ x3_1) = true := decide_eq_true c4
          clear c4
          by_cases c5 : x3_1 < (x0_1.length : Int)
          · rw [if_pos c5] at H
            have c5b0 : decide (x3_1 < (x0_1.length : Int)) = true := decide_eq_true c5
            clear c5
            by_cases c6 : 0 ≤ x2_1
            · rw [if_pos c6] at H
              have c6b0 : decide (0 ≤ x2_1) = true := decide_eq_true c6
              clear c6
              by_cases c7 : x2_1 < (x0_1.length : Int)
              · rw [if_pos c7] at H
                have c7b0 : decide (x2_1 < (x0_1.length : Int)) = true := decide_eq_true c7
                clear c7
                obtain ⟨y195, hy195⟩ : ∃ y_ : List Int, y_ = (x0_1.set (x2_1 : Int).toNat (rd x0_1 x3_1)) := ⟨_, rfl⟩
                replace H : (slices_Reverse_byte_byte.l0 k1 (y195.set (x3_1 : Int).toNat (rd x0_1 x2_1)) (wrap64 (x2_1 + 1)) (wrap64 (x3_1 - 1))) = some r := by first | (rw [hy195]; with_reducible exact H) | (have H2_ := (Option.bind_some _ _).symm.trans H; rw [hy195]; with_reducible exact H2_) | (have H2_ := (Option.bind_some _ _).symm.trans H; with_reducible exact H2_) | with_reducible exact H | (rw [hy195]; exact H) | exact H
                have Ny195 := Aside0.mk hy195
                clear hy195
                obtain ⟨y196, hy196⟩ : ∃ y_ : List Int, y_ = (y195.set (x3_1 : Int).toNat (rd x0_1 x2_1)) := ⟨_, rfl⟩
                replace H : (slices_Reverse_byte_byte.l0 k1 y196 (wrap64 (x2_1 + 1)) (wrap64 (x3_1 - 1))) = some r := by first | (rw [hy196]; with_reducible exact H) | (have H2_ := (Option.bind_some _ _).symm.trans H; rw [hy196]; with_reducible exact H2_) | (have H2_ := (Option.bind_some _ _).symm.trans H; with_reducible exact H2_) | with_reducible exact H | (rw [hy196]; exact H) | exact H
                have Ny196 := Aside0.mk hy196
                clear hy196
                have H' := Aside0.mk H
                clear H
                try go_wp2
                have n0_ := Aside0.mk (Kd.R_drew HO_0.out)
                have n1_ := Aside0.mk (Kept.drew HK.out)
                have n2_ := Aside0.mk (below_drew1 HB.out)
                clear HO_0
                clear HK
                clear HB
                have HO_0 := n0_
                have HK := n1_
                have HB := n2_
                clear n0_ n1_ n2_
                have p193 : 0 ≤ (x3_1 : Int) := of_decide_eq_true (by first | (with_reducible assumption) | assumption)
                have q193 : x3_1 < (x0_1.length : Int) := of_decide_eq_true (by first | (with_reducible assumption) | assumption)
                obtain ⟨ad193, e193, hx193_0⟩ := Kd.at_int (Kd.R_reads' HO_0.out).2.2 x3_1 p193 q193
                cases e193
                replace p193 := eq_true p193
                replace q193 := eq_true q193
                have p194 : 0 ≤ (x2_1 : Int) := of_decide_eq_true (by first | (with_reducible assumption) | assumption)
                have q194 : x2_1 < (x0_1.length : Int) := of_decide_eq_true (by first | (with_reducible assumption) | assumption)
                obtain ⟨ad194, e194, hx194_0⟩ := Kd.at_int (Kd.R_reads' HO_0.out).2.2 x2_1 p194 q194
                obtain rfl : ad193 = ad194 := (by injection e194)
                replace p194 := eq_true p194
                replace q194 := eq_true q194
                have p8 : 0 ≤ (x2_1 : Int) := of_decide_eq_true (by first | (with_reducible assumption) | assumption)
                have q8 : (x2_1 : Int) < ((x0_1.length : Int) : Int) := of_decide_eq_true (by first | (with_reducible assumption) | assumption)
                obtain ⟨go8, co8, eo8, gb8, gl8, cl8, HG8⟩ := Kd.R_form HO_0.out (by omega)
                (first | cases eo8 | (injection eo8 with ea_ en_ ec_; (first | subst ea_ | (injection ea_ with ea_; subst ea_)); subst ec_; clear en_))
                have GB8 := Aside0.mk gb8
                have GG8 := Aside0.mk HG8
                clear gb8 gl8 HG8
                have HMgo8 := Aside0.mk (show (P0_ go8 ∨ w.heap.size ≤ go8) from (HO_0.out.1 _ rfl))
                (first | simp only [add_plain] at hx193_0 | skip)
                (first | simp only [add_plain] at hx194_0 | skip)
                obtain ⟨hx8_0, hf8_0⟩ := Kd.R_celln 0 HO_0.out (x2_1 : Int) p8 q8
                replace p8 := eq_true p8
                replace q8 := eq_true q8
                have HP11 := Kd.R_putn HO_0.out (x2_1 : Int) (rd x0_1 x3_1)
                rw [← Ny195.out] at HP11
                have HQ11 := Aside0.mk HP11
                clear HP11
                have p9 : 0 ≤ (x3_1 : Int) := of_decide_eq_true (by first | (with_reducible assumption) | assumption)
                have q9 : (x3_1 : Int) < ((x0_1.length : Int) : Int) := of_decide_eq_true (by first | (with_reducible assumption) | assumption)
                obtain ⟨hx9_0, hf9_0⟩ := Kd.R_celln 0 HQ11.out (x3_1 : Int) p9 q9
                replace p9 := eq_true p9
                replace q9 := eq_true q9
                have HP12 := Kd.R_putn HQ11.out (x3_1 : Int) (rd x0_1 x2_1)
                rw [← Ny196.out] at HP12
                have HQ12 := Aside0.mk HP12
                clear HP12
                refine start_ (n := 16) (S := fun w' => w'.cell? ⟨go8, (x3_1).toNat, none⟩ = some (.int .u8 (rd x0_1 x3_1)) ∧ w'.cell? ⟨go8, (x2_1).toNat, none⟩ = some (.int .u8 (rd x0_1 x2_1))) (ds := [13, 15]) #[false, false, false, false, false, false, false, false, false, false, false, false, false, false, false, false] (by kernel_rfl) rfl rfl ⟨hx193_0, hx194_0⟩ (fun hHeld => ?_); refine with_tabW slices_Reverse_byte_byte.tab3 slices_Reverse_byte_byte.bits3 (fun HT_ HW_ => ?_)
                generalize wr.drew = w10 at HO_0 HK HB GG8 HQ11 HQ12 hf8_0 hf9_0 hx193_0 hx194_0 hx8_0 hx9_0 hHeld ⊢
                refine pure_ (i := 0) (N := some 14) (v := ?_) (a' := ?_) #[true, false, false, false, false, false, false, false, false, false, false, false, false, false, false, false] rfl rfl (any_of HT_.out (by kernel_rfl)) (fun _ _ _ h => h) (Or.inl ⟨by rfl, ?_⟩) ?_ ?_
                rotate_left
                · intro w'
                  go_simp
                  with_reducible rfl
                rotate_left
                · simp only [Act.put, List.setIfInBounds_toArray, List.set_cons_zero, List.set_cons_succ, i64_w, i32_w]
                  rfl
                refine pure_ (i := 1) (N := some 15) (v := ?_) (a' := ?_) #[true, true, false, false, false, false, false, false, false, false, false, false, false, false, false, false] rfl rfl (any_of HT_.out (by kernel_rfl)) (fun _ _ _ h => h) (Or.inl ⟨by rfl, ?_⟩) ?_ ?_
                rotate_left
                · intro w'
                  go_simp
                  with_reducible rfl
                rotate_left
                · simp only [Act.put, List.setIfInBounds_toArray, List.set_cons_zero, List.set_cons_succ, i64_w, i32_w]
                  rfl
                refine pure_ (i := 2) (N := some 16) (v := ?_) (a' := ?_) #[true, true, true, false, false, false, false, false, false, false, false, false, false, false, false, false] rfl rfl (any_of HT_.out (by kernel_rfl)) (fun _ _ _ h => h) (Or.inl ⟨by rfl, ?_⟩) ?_ ?_
                rotate_left
                · intro w'
                  go_simp
                  with_reducible rfl
                rotate_left
                · simp only [Act.put, List.setIfInBounds_toArray, List.set_cons_zero, List.set_cons_succ, i64_w, i32_w]
                  rfl
                refine pure_ (i := 3) (N := some 17) (v := ?_) (a' := ?_) #[true, true, true, true, false, false, false, false, false, false, false, false, false, false, false, false] rfl rfl (any_of HT_.out (by kernel_rfl)) (fun _ _ _ h => h) (Or.inl ⟨by rfl, ?_⟩) ?_ ?_
                rotate_left
                · intro w'
                  go_simp
                  with_reducible rfl
                rotate_left
                · simp only [Act.put, List.setIfInBounds_toArray, List.set_cons_zero, List.set_cons_succ, i64_w, i32_w]
                  rfl
                refine pure_ (i := 4) (N := some 18) (v := ?_) (a' := ?_) #[true, true, true, true, true, false, false, false, false, false, false, false, false, false, false, false] rfl rfl (any_of HT_.out (by kernel_rfl)) (fun _ _ _ h => h) (Or.inl ⟨by rfl, ?_⟩) ?_ ?_
                rotate_left
                · intro w'
                  go_simp
                  with_reducible rfl
                rotate_left
                · simp only [Act.put, List.setIfInBounds_toArray, List.set_cons_zero, List.set_cons_succ, i64_w, i32_w]
                  rfl
                refine pure_ (i := 5) (N := some 19) (v := ?_) (a' := ?_) #[true, true, true, true, true, true, false, false, false, false, false, false, false, false, false, false] rfl rfl (any_of HT_.out (by kernel_rfl)) (fun _ _ _ h => h) (Or.inl ⟨by rfl, ?_⟩) ?_ ?_
                rotate_left
                · intro w'
                  go_simp
                  with_reducible rfl
                rotate_left
                · simp only [Act.put, List.setIfInBounds_toArray, List.set_cons_zero, List.set_cons_succ, i64_w, i32_w]
                  rfl
                refine pure_ (i := 6) (N := some 20) (v := ?_) (a' := ?_) #[true, true, true, true, true, true, true, false, false, false, false, false, false, false, false, false] rfl rfl (any_of HT_.out (by kernel_rfl)) (fun _ _ _ h => h) (Or.inl ⟨by rfl, ?_⟩) ?_ ?_
                rotate_left
                · intro w'
                  go_simp
                  with_reducible rfl
                rotate_left
                · simp only [Act.put, List.setIfInBounds_toArray, List.set_cons_zero, List.set_cons_succ, i64_w, i32_w]
                  rfl
                refine pure_ (i := 8) (N := some 22) (v := ?_) (a' := ?_) #[true, true, true, true, true, true, true, false, true, false, false, false, false, false, false, false] rfl rfl (any_of HT_.out (by kernel_rfl)) (fun _ _ _ h => h) (Or.inl ⟨by rfl, ?_⟩) ?_ ?_
                rotate_left
                · intro w'
                  go_simp
                  with_reducible rfl
                rotate_left
                · simp only [Act.put, List.setIfInBounds_toArray, List.set_cons_zero, List.set_cons_succ, i64_w, i32_w]
                  rfl
                refine pure_ (i := 9) (N := some 23) (v := ?_) (a' := ?_) #[true, true, true, true, true, true, true, false, true, true, false, false, false, false, false, false] rfl rfl (any_of HT_.out (by kernel_rfl)) (fun _ _ _ h => h) (Or.inl ⟨by rfl, ?_⟩) ?_ ?_
                rotate_left
                · intro w'
                  go_simp
                  with_reducible rfl
                rotate_left
                · simp only [Act.put, List.setIfInBounds_toArray, List.set_cons_zero, List.set_cons_succ, i64_w, i32_w]
                  rfl
                refine pure_ (i := 10) (N := some 24) (v := ?_) (a' := ?_) #[true, true, true, true, true, true, true, false, true, true, true, false, false, false, false, false] rfl rfl (any_of HT_.out (by kernel_rfl)) (fun _ _ _ h => h) (Or.inl ⟨by rfl, ?_⟩) ?_ ?_
                rotate_left
                · intro w'
                  go_simp
                  with_reducible rfl
                rotate_left
                · simp only [Act.put, List.setIfInBounds_toArray, List.set_cons_zero, List.set_cons_succ, i64_w, i32_w]
                  rfl
                refine take_ (i := 7) (N := some 21) (v := ?_) (a' := ?_) #[true, true, true, true, true, true, true, true, true, true, true, false, false, false, false, false] rfl rfl (take_ofW HT_.out HW_.out (by kernel_rfl)) (fun _ _ _ h => h) (Or.inl ⟨by rfl, ?_⟩) hHeld ?_ ?_
                rotate_left
                · rintro w' ⟨s0, s1⟩
                  go_simp
                  with_reducible rfl
                rotate_left
                · simp only [Act.put, List.setIfInBounds_toArray, List.set_cons_zero, List.set_cons_succ, i64_w, i32_w]
                  rfl
                refine take_ (i := 11) (N := some 25) (v := ?_) (a' := ?_) #[true, true, true, true, true, true, true, true, true, true, true, true, false, false, false, false] rfl rfl (take_ofW HT_.out HW_.out (by kernel_rfl)) (fun _ _ _ h => h) (Or.inl ⟨by rfl, ?_⟩) hHeld ?_ ?_
                rotate_left
                · rintro w' ⟨s0, s1⟩
                  go_simp
                  with_reducible rfl
                rotate_left
                · simp only [Act.put, List.setIfInBounds_toArray, List.set_cons_zero, List.set_cons_succ, i64_w, i32_w]
                  rfl
                refine pure_ (i := 12) (N := some 26) (v := ?_) (a' := ?_) #[true, true, true, true, true, true, true, true, true, true, true, true, true, false, false, false] rfl rfl (any_of HT_.out (by kernel_rfl)) (fun _ _ _ h => h) (Or.inl ⟨by rfl, ?_⟩) ?_ ?_
                rotate_left
                · intro w'
                  go_simp
                  with_reducible rfl
                rotate_left
                · simp only [Act.put, List.setIfInBounds_toArray, List.set_cons_zero, List.set_cons_succ, i64_w, i32_w]
                  rfl
                refine last_ (i := 13) (N := none) #[true, true, true, true, true, true, true, true, true, true, true, true, true, true, false, false] rfl rfl (one_of HT_.out (by kernel_rfl)) (by decide) (fun K hK => ?_)
                refine skip_ (w1 := ?_) (by rfl) rfl ?_ ?_
                rotate_left
                · go_simp
                  rfl
                refine hK.out _ _ ?_
                clear hK K
                refine pure_ (i := 14) (N := some 27) (v := ?_) (a' := ?_) #[true, true, true, true, true, true, true, true, true, true, true, true, true, true, true, false] rfl rfl (any_of HT_.out (by kernel_rfl)) (fun _ _ _ h => h) (Or.inl ⟨by rfl, ?_⟩) ?_ ?_
                rotate_left
                · intro w'
                  go_simp
                  with_reducible rfl
                rotate_left
                · simp only [Act.put, List.setIfInBounds_toArray, List.set_cons_zero, List.set_cons_succ, i64_w, i32_w]
                  rfl
                refine last_ (i := 15) (N := none) #[true, true, true, true, true, true, true, true, true, true, true, true, true, true, true, true] rfl rfl (one_of HT_.out (by kernel_rfl)) (by decide) (fun K hK => ?_)
                refine skip_ (w1 := ?_) (by rfl) rfl ?_ ?_
                rotate_left
                · go_simp
                  rfl
                refine hK.out _ _ ?_
                clear hK K
                refine done_ (done_of HT_.out (by kernel_rfl)) ?_
                try go_wp2
                (try simp only [← hl0_1])
                go_roundg k1
                case measure => have := HK1.out; omega
                case rel => exact ⟨(y196), (wrap64 (x2_1 + 1)), (wrap64 (x3_1 - 1)), (by first | rfl | (simp; done) | (simp [*]; done)), (by first | rfl | (simp; done) | (simp [*]; done)), H', ⟨by have := HK1.out; omega⟩, ⟨by (try simp only [hl0_1]); (with_reducible repeat (first | apply Kd.R_alloc | apply Kd.R_drewN | apply Kd.R_drew)); exact HQ12.out⟩, ⟨by repeat (first | (with_reducible first | exact HK.out | apply Kept.alloc | apply Kept.drewN | apply Kept.drew | refine Kept.setCell ?_ HMgo8.out _ | refine Kept.setCell ?_ HMgo8.out _) | exact HK.out)⟩, ⟨by repeat (first | (with_reducible first | exact HB.out | apply below_alloc | apply pw_below_drewN | apply below_drew1 | refine below_set ?_ GB8.out | refine below_set ?_ GB8.out) | exact HB.out)⟩⟩
              · rw [if_neg c7] at H
                exact absurd H (by simp)
            · rw [if_neg c6] at H
              exact absurd H (by simp)
          · rw [if_neg c5] at H
            exact absurd H (by simp)
        · rw [if_neg c4] at H
          exact absurd H (by simp)
      · rw [if_neg c3] at H
        have c3b0 : decide (x2_1 < x3_1) = false := decide_eq_false c3
        clear c3
        obtain rfl := Option.some.inj H
        go_wp2
        first | go_end0 | ((try simp only [Exit.inBlock, Exit.then]); refine bodyPost_ret (results_none rfl _ _ _) rfl ?_)
        exact ⟨by first | rfl | (simp [errW_none, errW_some] <;> rfl) | (simp [*, errW_none, errW_some] <;> rfl), (by first | exact (by (with_reducible repeat (first | apply Kd.R_alloc | apply Kd.R_drewN | apply Kd.R_drew)); exact HO_0.out) | (simp only [hl0_1]; exact (by (with_reducible repeat (first | apply Kd.R_alloc | apply Kd.R_drewN | apply Kd.R_drew)); exact HO_0.out))), by repeat (first | (with_reducible first | exact HB.out | apply below_alloc | apply pw_below_drewN | apply below_drew1) | exact HB.out), by repeat (first | (with_reducible first | exact HK.out | apply Kept.alloc | apply Kept.drewN | apply Kept.drew) | exact HK.out)⟩
end Go.Proofs.YtcmcopieagpppaaGreatDoor.P
namespace Go.Proofs.YtcmcopieagpppaaGreatDoor.P
open Go.RowKit Go.Proofs.YtcmcopieagpppaaGreatDoorW.PrintWords Go.Proofs.YtcmcopieagpppaaGreatDoorW.PrintLast Go.Proofs.YtcmcopieagpppaaGreatDoorW.PrintMore
attribute [local go_sem] max2_int min2_int max_two min_two max_three min_three max_four min_four
set_option linter.unusedVariables false
set_option linter.unusedSimpArgs false
mutual
def ascii_Decimal.j0 : Nat → Int → ByteArray → Option (ByteArray)
  | 0, _, _ => none
  | k + 1, x3, x4 => ascii_Decimal.l0 k (IntKind.u64.wrap (Int.tdiv x3 10)) x4 (([(IntKind.u64.wrap (48 + (Int.tmod x3 10))) % 256] : List Int))
def ascii_Decimal.l0 : Nat → Int → ByteArray → List Int → Option (ByteArray)
  | 0, _, _, _ => none
  | k + 1, x3, x4, x5 => if x3 > 0 then (if x5.length < 140737488355328 then (ascii_Decimal.l0 k (IntKind.u64.wrap (Int.tdiv x3 10)) x4 (x5 ++ [(IntKind.u64.wrap (48 + (Int.tmod x3 10))) % 256])) else (none)) else ((slices_Reverse_byte_byte.f k x5).bind fun t203 => (if x4.size + (strOfNums t203).size ≤ 9223372036854775807 then (some (x4 ++ (strOfNums t203))) else (none)))
end
def ascii_Decimal.f (k : Nat) (a0 : Int) : Option (ByteArray) := if a0 < 0 then (ascii_Decimal.j0 k (IntKind.u64.wrap (-(IntKind.u64.wrap (a0)))) (⟨#[45]⟩ : ByteArray)) else (ascii_Decimal.j0 k (IntKind.u64.wrap (a0)) (⟨#[]⟩ : ByteArray))
set_option maxHeartbeats 8000000 in
set_option maxRecDepth 100000 in
theorem ascii_Decimal.calls (k : Nat) (a0 : Int) (r : ByteArray) (w : World) (h : ascii_Decimal.f k a0 = some r) :
    Calls Tryz.prog 69 #[.int .i64 a0] w fun e w' => e = .returned (.string r) ∧ Below w.heap.size w w' := by
  have HB := Aside0.mk (Below.refl w.heap.size w)
  have H : (if a0 < 0 then (ascii_Decimal.j0 k (IntKind.u64.wrap (-(IntKind.u64.wrap (a0)))) (⟨#[45]⟩ : ByteArray)) else (ascii_Decimal.j0 k (IntKind.u64.wrap (a0)) (⟨#[]⟩ : ByteArray))) = some r := h
  clear h
  have HC2 := Aside0.mk H
  clear H
  go_enter Tryz.func69, Tryz.ntmps69
  go_upto_if 9 with (fail)
  go_cut [3, 4] (fun v3 v4 wc => ∃ (kq : Nat) (x3_1 : Int) (x4_1 : ByteArray), v3 = .int .u64 x3_1 ∧ v4 = .string x4_1 ∧ Aside0 (ascii_Decimal.j0 kq x3_1 x4_1 = some r) ∧ Aside0 (kq ≤ k) ∧ Aside0 (Below w.heap.size w wc))
  case first =>
    have H := HC2.out
    clear HC2
    by_cases c3 : a0 < 0
    · rw [if_pos c3] at H
      have c3b0 : decide (a0 < 0) = true := decide_eq_true c3
      clear c3
      (first | rw [c3b0] | (simp only [i64_w, i32_w]; rw [c3b0]) | skip)
      have H' := Aside0.mk H
      clear H
      go_wp2
      go_meet
      case rel => exact ⟨_, (IntKind.u64.wrap (-(IntKind.u64.wrap (a0)))), ((⟨#[45]⟩ : ByteArray)), (by first | rfl | (simp; done) | (simp [*]; done)), (by first | rfl | (simp; done) | (simp [*]; done)), H', ⟨by first | omega | exact Nat.le_refl _⟩, ⟨by repeat (first | (with_reducible first | exact HB.out | apply below_alloc | apply pw_below_drewN | apply below_drew1) | exact HB.out)⟩⟩
    · rw [if_neg c3] at H
      have c3b0 : decide (a0 < 0) = false := decide_eq_false c3
      clear c3
      (first | rw [c3b0] | (simp only [i64_w, i32_w]; rw [c3b0]) | skip)
      have H' := Aside0.mk H
      clear H
      go_wp2
      go_meet
      case rel => exact ⟨_, (IntKind.u64.wrap (a0)), ((⟨#[]⟩ : ByteArray)), (by first | rfl | (simp; done) | (simp [*]; done)), (by first | rfl | (simp; done) | (simp [*]; done)), H', ⟨by first | omega | exact Nat.le_refl _⟩, ⟨by repeat (first | (with_reducible first | exact HB.out | apply below_alloc | apply pw_below_drewN | apply below_drew1) | exact HB.out)⟩⟩
  case rest =>
    clear HC2
    try clear p2
    try clear c3
    try clear c3b0
    obtain ⟨kq, x3_1, x4_1, rfl, rfl, HA, HJ1, HB⟩ := hcut
    cases kq with
    | zero => exact absurd HA.out (by simp [ascii_Decimal.j0])
    | succ kj1 =>
      have H := HA.out
      clear HA
      simp only [ascii_Decimal.j0] at H
      obtain ⟨y197, hy197⟩ : ∃ y_ : List Int, y_ = (([(IntKind.u64.wrap (48 + (Int.tmod x3_1 10))) % 256] : List Int)) := ⟨_, rfl⟩
      replace H : (ascii_Decimal.l0 kj1 (IntKind.u64.wrap (Int.tdiv x3_1 10)) x4_1 y197) = some r := by first | (rw [hy197]; with_reducible exact H) | (have H2_ := (Option.bind_some _ _).symm.trans H; rw [hy197]; with_reducible exact H2_) | (have H2_ := (Option.bind_some _ _).symm.trans H; with_reducible exact H2_) | with_reducible exact H | (rw [hy197]; exact H) | exact H
      have Ny197 := Aside0.mk hy197
      clear hy197
      have H' := Aside0.mk H
      clear H
      go_wp2_with (first | ((with_reducible refine gate_dst (N := 16) rfl ?_); refine Kd.R_lit (Kd.int .u8) _ 5 ?hg (N := 16) ?hd (xs := ([(IntKind.u64.wrap (48 + (Int.tmod x3_1 10))) % 256] : List Int)) (inner := [.int .u8 ((IntKind.u64.wrap (48 + (Int.tmod x3_1 10))) % 256)]) (ok := fun _ => True) (okp := fun _ => True) ?hr ?hp (fun _ hk => hk) trivial (Below.refl _ _) (Nat.le_refl _) (by simp) ?_; (case hd => rfl); (case hg => rfl); (case hr => first | (go_simp; done) | (go_simp; rfl)); (case hp => exact (Reps.one (show Kd.M (Kd.int .u8) _ _ _ ((IntKind.u64.wrap (48 + (Int.tmod x3_1 10))) % 256) [.int .u8 ((IntKind.u64.wrap (48 + (Int.tmod x3_1 10))) % 256)] from rfl) (Reps.none _ _))); intro v198 w4 ho5 hb hg_ hnew_; clear hg_ hnew_; (first | rw [← Ny197.out] at ho5 | (simp only [Int.reduceToNat] at ho5; rw [← Ny197.out] at ho5)); have n0_ := Aside0.mk (Kd.R_lower ho5 (below_size (by repeat (first | (with_reducible first | exact HB.out | apply below_alloc | apply pw_below_drewN | apply below_drew1) | exact HB.out)))); have n1_ := Aside0.mk (below_step (by repeat (first | (with_reducible first | exact HB.out | apply below_alloc | apply pw_below_drewN | apply below_drew1) | exact HB.out)) hb); clear HB; have HO199 := n0_; have HB := n1_; clear n0_ n1_; clear hb ho5))
      go_loopg [3, 5] kj1 (fun kq v3 v5 w' => ∃ (x3_2 : Int) (x5_2 : List Int), v3 = .int .u64 x3_2 ∧ Aside0 (ascii_Decimal.l0 kq x3_2 x4_1 x5_2 = some r) ∧ Aside0 (kq ≤ kj1) ∧ Aside0 (Kd.R (Kd.int .u8) 5 w' w.heap.size (fun _ => True) v5 x5_2) ∧ Aside0 (Below w.heap.size w w'))
      case atStart => exact ⟨(IntKind.u64.wrap (Int.tdiv x3_1 10)), (y197), (by first | rfl | (simp; done) | (simp [*]; done)), H', ⟨Nat.le_refl _⟩, ⟨by (with_reducible repeat (first | apply Kd.R_alloc | apply Kd.R_drewN | apply Kd.R_drew)); exact HO199.out⟩, ⟨by repeat (first | (with_reducible first | exact HB.out | apply below_alloc | apply pw_below_drewN | apply below_drew1) | exact HB.out)⟩⟩
      case round =>
        clear H'
        try clear p2
        try clear c3
        try clear c3b0
        try clear p2
        obtain ⟨x3_2, x5_2, rfl, HA, HK2, HO_5, HB⟩ := hrel
        cases gk with
        | zero => exact absurd HA.out (by simp [ascii_Decimal.l0])
        | succ k2 =>
          have H := HA.out
          clear HA
          simp only [ascii_Decimal.l0] at H
          by_cases c6 : x3_2 > 0
          · rw [if_pos c6] at H
            have c6b0 : decide (0 < x3_2) = true := decide_eq_true c6
            clear c6
            by_cases c7 : x5_2.length < 140737488355328
            · rw [if_pos c7] at H
              have LMc7 := Aside0.mk c7
              clear c7
              obtain ⟨y200, hy200⟩ : ∃ y_ : List Int, y_ = (x5_2 ++ [(IntKind.u64.wrap (48 + (Int.tmod x3_2 10))) % 256]) := ⟨_, rfl⟩
              replace H : (ascii_Decimal.l0 k2 (IntKind.u64.wrap (Int.tdiv x3_2 10)) x4_1 y200) = some r := by first | (rw [hy200]; with_reducible exact H) | (have H2_ := (Option.bind_some _ _).symm.trans H; rw [hy200]; with_reducible exact H2_) | (have H2_ := (Option.bind_some _ _).symm.trans H; with_reducible exact H2_) | with_reducible exact H | (rw [hy200]; exact H) | exact H
              have Ny200 := Aside0.mk hy200
              clear hy200
              have H' := Aside0.mk H
              clear H
              go_wp2_with (first | ((with_reducible refine gate_builtin (b := .append) (xs := #[.tmp 23, .tmp 28]) rfl ?_); at_builtin; refine Kd.R_append (Kd.int .u8) (w0 := w) w.heap.size rfl (.tmp 23) (.tmp 28) 46 5 (.int .u8 0) 1 rfl Tryz.underlying46 info5 rfl (by decide) (by omega) u5 x5_2 ((IntKind.u64.wrap (48 + (Int.tmod x3_2 10))) % 256) [.int .u8 ((IntKind.u64.wrap (48 + (Int.tmod x3_2 10))) % 256)] (fun _ => True) (fun _ => False) rfl rfl ?aP (fun _ hk => hk.elim) ?aF ?aO ?aB ?aS ?aL ?_; (case aP => exact rfl); (case aB => exact (by repeat (first | (with_reducible first | exact HB.out | apply below_alloc | apply pw_below_drewN | apply below_drew1) | exact HB.out))); (case aF => exact (fun _ _ => trivial)); (case aO => exact (by (with_reducible repeat (first | apply Kd.R_alloc | apply Kd.R_drewN | apply Kd.R_drew)); exact HO_5.out)); (case aS => exact (below_size (by repeat (first | (with_reducible first | exact HB.out | apply below_alloc | apply pw_below_drewN | apply below_drew1) | exact HB.out)))); (case aL => have := LMc7.out; omega); intro v201 w8 ho hb hg hat; rw [← Ny200.out] at ho; have n0_ := Aside0.mk (hb); have n1_ := Aside0.mk (ho); clear HB; clear HO_5; have HB := n0_; have HO202 := n1_; clear n0_ n1_; clear ho hb hg hat))
              go_roundg k2
              case measure => have := HJ1.out; have := HK2.out; omega
              case rel => exact ⟨(IntKind.u64.wrap (Int.tdiv x3_2 10)), (y200), (by first | rfl | (simp; done) | (simp [*]; done)), H', ⟨by have := HJ1.out; have := HK2.out; omega⟩, ⟨by (with_reducible repeat (first | apply Kd.R_alloc | apply Kd.R_drewN | apply Kd.R_drew)); exact HO202.out⟩, ⟨by repeat (first | (with_reducible first | exact HB.out | apply below_alloc | apply pw_below_drewN | apply below_drew1) | exact HB.out)⟩⟩
            · rw [if_neg c7] at H
              exact absurd H (by simp)
          · rw [if_neg c6] at H
            have c6b0 : decide (0 < x3_2) = false := decide_eq_false c6
            clear c6
            replace H := Option.bind_eq_some_iff.mp H
            obtain ⟨t203, A90, H⟩ := H
            replace H : (if x4_1.size + (strOfNums t203).size ≤ 9223372036854775807 then (some (x4_1 ++ (strOfNums t203))) else (none)) = some r := H
            have A9 := Aside0.mk A90
            clear A90
            by_cases c10 : x4_1.size + (strOfNums t203).size ≤ 9223372036854775807
            · rw [if_pos c10] at H
              have c10b0 := eq_true c10
              have c10b1 : decide (x4_1.size + (strOfNums t203).size ≤ 9223372036854775807) = true := decide_eq_true c10
              try have c10b2 : (9223372036854775807 < x4_1.size + (strOfNums t203).size) = False := eq_false (Nat.not_lt.2 c10)
              obtain rfl := Option.some.inj H
              obtain ⟨Ao11, co11, eo11⟩ := Kd.R_slice HO_5.out
              subst eo11
              go_wp2_with (first | ((with_reducible refine gate_callee (f := 103) rfl ?_); refine goesL_ (some 31) rfl rfl Tryz.func103 (by kernel_rfl) rfl #[.slice Ao11 x5_2.length co11] rfl (by (try simp only [List.map_toArray, List.map_cons, List.map_nil]); first | done | rfl | (simp only [List.length_drop, List.length_take]; rfl)) ?_; (with_reducible refine (slices_Reverse_byte_byte.calls k2 (fun k_ => some k_ = (.slice Ao11 x5_2.length co11 : Value).ownBlock) (.slice Ao11 x5_2.length co11) x5_2 t203 w _ ?side1 ?side2 A9.out).mono ?_); (case side1 => repeat (first | (with_reducible first | exact HB.out | apply below_alloc | apply pw_below_drewN | apply below_drew1) | exact HB.out)); (case side2 => exact Kd.R_tight rfl HO_5.out); rintro e w12 ⟨rfl, hy0, hb, hkp⟩; refine ⟨_, rfl, ?_⟩; have n0_ := Aside0.mk (Kd.R_reok rfl hy0 (fun k_ e_ => HO_5.out.1 k_ e_)); have n1_ := Aside0.mk (hb); clear HO_5; clear HB; have HO_5 := n0_; have HB := n1_; clear n0_ n1_; (try clear hb); (try clear hkp); (try clear hy0); have hcv13 := own_string (P := Tryz.prog) Tryz.underlying46 Tryz.underlying5 Tryz.underlying9 (Kd.own_of_R HO_5.out)))
              go_ret
              exact ⟨by first | rfl | (simp [errW_none, errW_some] <;> rfl) | (simp [*, errW_none, errW_some] <;> rfl), by repeat (first | (with_reducible first | exact HB.out | apply below_alloc | apply pw_below_drewN | apply below_drew1) | exact HB.out)⟩
            · rw [if_neg c10] at H
              exact absurd H (by simp)
end Go.Proofs.YtcmcopieagpppaaGreatDoor.P
namespace Go.Proofs.YtcmcopieagpppaaGreatDoor.P
open Go.RowKit Go.Proofs.YtcmcopieagpppaaGreatDoorW.PrintWords Go.Proofs.YtcmcopieagpppaaGreatDoorW.PrintLast Go.Proofs.YtcmcopieagpppaaGreatDoorW.PrintMore
set_option linter.unusedVariables false
set_option linter.unusedSimpArgs false
theorem numberFrom_one (v left : Nat) (p : List UInt8) : Web.numberFrom v left [p] = match Web.part p with
    | none => none
    | some n => if n < 2 ^ (8 * left) then some (v + n) else none := by
  rw [Web.numberFrom]
  all_goals (cases Web.part p <;> rfl)
theorem numberFrom_more (v left : Nat) (p q : List UInt8) (r : List (List UInt8)) : Web.numberFrom v left (p :: q :: r) = match Web.part p with
    | none => none
    | some n => if 255 < n then none else Web.numberFrom (v + n * 2 ^ (8 * (left - 1))) (left - 1) (q :: r) := by
  rw [Web.numberFrom]
  all_goals (cases Web.part p <;> rfl)
def pairOf (o : Option Nat) : Int × Bool := match o with
  | some n => ((n : Int), true)
  | none => (0, false)
theorem numberFrom_lt : ∀ (L : List (List UInt8)) (v left n : Nat), L.length ≤ left → v + 2 ^ (8 * left) ≤ 4294967296 → Web.numberFrom v left L = some n → n < 4294967296
  | [], v, left, n, _, _, h => by simp [Web.numberFrom] at h
  | [p], v, left, n, hl, hv, h => by
    rw [numberFrom_one] at h
    cases e : Web.part p with
    | none => rw [e] at h; cases h
    | some m =>
      rw [e] at h
      simp only [] at h
      split at h
      · injection h with h; omega
      · cases h
  | p :: q :: r, v, left, n, hl, hv, h => by
    rw [numberFrom_more] at h
    cases e : Web.part p with
    | none => rw [e] at h; cases h
    | some m =>
      rw [e] at h
      simp only [] at h
      split at h
      · cases h
      · rename_i hm
        have h4 : 2 ^ (8 * left) = 256 * 2 ^ (8 * (left - 1)) := by
          simp only [List.length_cons] at hl
          rw [show 8 * left = 8 + 8 * (left - 1) from by omega, Nat.pow_add]
        have h5 : m * 2 ^ (8 * (left - 1)) ≤ 255 * 2 ^ (8 * (left - 1)) := Nat.mul_le_mul_right _ (by omega)
        exact numberFrom_lt (q :: r) _ _ n (by simp only [List.length_cons] at hl ⊢; omega) (by omega) h
theorem number_lt (l : List UInt8) (n : Nat) (h : Web.number l = some n) : n < 4294967296 := by
  unfold Web.number at h
  split at h
  · cases h
  · exact numberFrom_lt _ 0 4 n (by omega) (by decide) h
def revDig (n : Nat) : List UInt8 := if h : n = 0 then [] else UInt8.ofNat (48 + n % 10) :: revDig (n / 10)
  termination_by n
  decreasing_by omega
theorem revDig_zero : revDig 0 = [] := by rw [revDig]; simp
theorem revDig_pos (n : Nat) (h : n ≠ 0) : revDig n = UInt8.ofNat (48 + n % 10) :: revDig (n / 10) := by rw [revDig]; simp [h]
theorem decimal_rev (n : Nat) (h : n ≠ 0) : Web.decimal n = (revDig n).reverse := by
  induction n using Nat.strongRecOn with
  | ind n ih =>
    rw [Web.decimal, revDig_pos n h]
    by_cases h1 : n < 10
    · rw [if_pos h1, show n / 10 = 0 from by omega, revDig_zero, show n % 10 = n from by omega]
      rfl
    · rw [if_neg h1, ih (n / 10) (by omega) (by omega), List.reverse_cons]
theorem decimal_zero : Web.decimal 0 = [48] := by rw [Web.decimal]; rfl
theorem revDig_len (m : Nat) : ∀ n, n < 10 ^ m → (revDig n).length ≤ m := by
  induction m with
  | zero => intro n h; have : n = 0 := by omega
            subst this; rw [revDig_zero]; simp
  | succ m ih =>
    intro n h
    by_cases h0 : n = 0
    · subst h0; rw [revDig_zero]; simp
    · rw [revDig_pos n h0, List.length_cons]
      have := ih (n / 10) (by rw [Nat.pow_succ] at h; omega)
      omega
theorem decimal_len (n : Nat) (h : n < 18446744073709551616) : (Web.decimal n).length ≤ 20 := by
  by_cases h0 : n = 0
  · subst h0; rw [decimal_zero]; simp
  · rw [decimal_rev n h0, List.length_reverse]
    exact revDig_len 20 n (by omega)
theorem digit_byte (n : Nat) : IntKind.u64.wrap (48 + Int.tmod (n : Int) 10) % 256 = ((UInt8.ofNat (48 + n % 10)).toNat : Int) := by
  have h1 : Int.tmod (n : Int) 10 = ((n % 10 : Nat) : Int) := by rw [Int.tmod_eq_emod_of_nonneg (by omega)]; omega
  rw [h1, u64_small (by omega) (by omega), UInt8.toNat_ofNat']
  omega
theorem tdiv_ten (n : Nat) (h : n < 18446744073709551616) : IntKind.u64.wrap (Int.tdiv (n : Int) 10) = ((n / 10 : Nat) : Int) := by
  have h1 : Int.tdiv (n : Int) 10 = ((n / 10 : Nat) : Int) := by rw [Int.tdiv_eq_ediv_of_nonneg (by omega)]; omega
  rw [h1, u64_small (by omega) (by omega)]
theorem dec_l1 (X : List UInt8) : ∀ (m : Nat) (k : Nat) (acc : List UInt8), m ≤ X.length → X.length < 1000000 → acc.length + m < 140737488355328 → m < k →
    parapetref1_Decimal.l1 k (nums8 X) (nums8 acc) ((m : Int) - 1) = some (ba (acc ++ (X.take m).reverse))
  | 0, k, acc, hm, hX, ha, hk => by
    obtain ⟨k, rfl⟩ : ∃ m, k = m + 1 := ⟨k - 1, by omega⟩
    simp only [parapetref1_Decimal.l1]
    rw [if_neg (by omega), str_nums8]
    simp
  | m + 1, k, acc, hm, hX, ha, hk => by
    obtain ⟨k, rfl⟩ : ∃ m, k = m + 1 := ⟨k - 1, by omega⟩
    have hm' : m < X.length := by omega
    have hrd : rd (nums8 X) (((m + 1 : Nat) : Int) - 1) = (X[m].toNat : Int) := by
      rw [show (((m + 1 : Nat) : Int) - 1) = (m : Int) from by omega]
      unfold rd nums8
      simp [List.getD_eq_getElem?_getD, List.getElem?_eq_getElem hm']
    simp only [parapetref1_Decimal.l1]
    rw [if_pos (by omega), if_pos (by omega), if_pos (by rw [nums8_len]; omega), if_pos (by rw [nums8_len]; omega), hrd, nums8_snoc,
      show wrap64 (((m + 1 : Nat) : Int) - 1 - 1) = (m : Int) - 1 from by unfold wrap64; omega,
      dec_l1 X m k (acc ++ [X[m]]) (by omega) hX (by rw [List.length_append, List.length_singleton]; omega) (by omega),
      List.take_succ_eq_append_getElem hm', List.reverse_append]
    simp
theorem dec_l0 : ∀ (u : Nat) (k : Nat) (n : Int) (acc : List UInt8), 0 ≤ n → u < 18446744073709551616 → acc.length + (revDig u).length < 100000 → 2 * (revDig u).length + acc.length + 10 < k →
    parapetref1_Decimal.l0 k n (u : Int) (nums8 acc) = some (ba (acc ++ revDig u).reverse) := by
  intro u
  induction u using Nat.strongRecOn with
  | ind u ih =>
    intro k n acc hn hu hl hk
    obtain ⟨k, rfl⟩ : ∃ m, k = m + 2 := ⟨k - 2, by omega⟩
    rw [parapetref1_Decimal.l0.eq_def]
    simp only []
    by_cases h0 : u = 0
    · subst h0
      rw [revDig_zero] at hk ⊢
      rw [if_neg (by simp), if_neg (by omega)]
      simp only [parapetref1_Decimal.j2]
      rw [nums8_len, show wrap64 ((acc.length : Int) - 1) = (acc.length : Int) - 1 from by unfold wrap64; omega]
      have := dec_l1 acc acc.length k [] (Nat.le_refl _) (by omega) (by simp; omega) (by simp at hk; omega)
      rw [List.take_length] at this
      simpa [nums8] using this
    · have hr := revDig_pos u h0
      rw [hr] at hl hk ⊢
      rw [List.length_cons] at hl hk
      rw [if_pos (by omega), if_pos (by rw [nums8_len]; omega), tdiv_ten u hu, digit_byte, nums8_snoc,
        ih (u / 10) (by omega) (k + 1) n _ hn (by omega) (by rw [List.length_append, List.length_singleton]; omega) (by rw [List.length_append, List.length_singleton]; omega)]
      simp
theorem ref_decimal_eq (n : Nat) (h : n < 9223372036854775808) (k : Nat) (hk : 100 < k) : parapetref1_Decimal.f k (n : Int) = some (ba (Web.decimal n)) := by
  obtain ⟨k, rfl⟩ : ∃ m, k = m + 1 := ⟨k - 1, by omega⟩
  unfold parapetref1_Decimal.f
  by_cases h0 : n = 0
  · subst h0; rw [if_pos (by rfl), decimal_zero]; rfl
  · rw [if_neg (by omega), if_neg (by omega), u64_small (by omega) (by omega), decimal_rev n h0]
    simp only [parapetref1_Decimal.j0]
    have hl := revDig_len 20 n (by omega)
    have := dec_l0 n k (n : Int) [] (by omega) (by omega) (by simp; omega) (by simp; omega)
    simpa [nums8] using this
theorem reverse_loop (n : Nat) (hn : n < 4611686018427387904) : ∀ (d : Nat) (x : List Int) (i j k : Nat), x.length = n → j < n → i ≤ j + 1 → d = j + 1 - i → d < k →
    ∃ r, slices_Reverse_byte_byte.l0 k x (i : Int) (j : Int) = some r ∧ r.length = n ∧ ∀ p, p < n → r[p]? = if i ≤ p ∧ p ≤ j then x[i + j - p]? else x[p]? := by
  intro d
  induction d using Nat.strongRecOn with
  | ind d ih =>
    intro x i j k hx hj hij hd hk
    obtain ⟨k, rfl⟩ : ∃ m, k = m + 1 := ⟨k - 1, by omega⟩
    simp only [slices_Reverse_byte_byte.l0]
    by_cases hlt : i < j
    · rw [if_pos (by omega), if_pos (by omega), if_pos (by omega), if_pos (by omega), if_pos (by omega), wrap_up (by omega), show wrap64 ((j : Int) - 1) = ((j - 1 : Nat) : Int) from by unfold wrap64; omega]
      have hxi : i < x.length := by omega
      have hxj : j < x.length := by omega
      have ri : rd x (i : Int) = x[i] := by unfold rd; simp [List.getD_eq_getElem?_getD, List.getElem?_eq_getElem hxi]
      have rj : rd x (j : Int) = x[j] := by unfold rd; simp [List.getD_eq_getElem?_getD, List.getElem?_eq_getElem hxj]
      rw [ri, rj, Int.toNat_natCast, Int.toNat_natCast]
      obtain ⟨r, hr, hrl, hrp⟩ := ih (d - 2) (by omega) ((x.set i x[j]).set j x[i]) (i + 1) (j - 1) k (by simp [hx]) (by omega) (by omega) (by omega) (by omega)
      refine ⟨r, hr, hrl, fun p hp => ?_⟩
      rw [hrp p hp]
      by_cases e1 : i ≤ p ∧ p ≤ j
      · rw [if_pos e1]
        by_cases e2 : p = i
        · subst e2
          rw [if_neg (by omega), List.getElem?_set_ne (by omega), List.getElem?_set_self (by omega), show p + j - p = j from by omega, List.getElem?_eq_getElem hxj]
        · by_cases e3 : p = j
          · subst e3
            rw [if_neg (by omega), List.getElem?_set_self (by simp; omega), show i + p - p = i from by omega, List.getElem?_eq_getElem hxi]
          · rw [if_pos (by omega), show i + 1 + (j - 1) - p = i + j - p from by omega, List.getElem?_set_ne (by omega), List.getElem?_set_ne (by omega)]
      · rw [if_neg e1, if_neg (by omega), List.getElem?_set_ne (by omega), List.getElem?_set_ne (by omega)]
    · rw [if_neg (by omega)]
      refine ⟨x, rfl, hx, fun p hp => ?_⟩
      by_cases e1 : i ≤ p ∧ p ≤ j
      · rw [if_pos e1, show i + j - p = p from by omega]
      · rw [if_neg e1]
theorem reverse_eq (x : List Int) (k : Nat) (hx : x.length < 4611686018427387904) (hk : x.length + 1 < k) : slices_Reverse_byte_byte.f k x = some x.reverse := by
  unfold slices_Reverse_byte_byte.f
  by_cases h0 : x = []
  · subst h0
    obtain ⟨k, rfl⟩ : ∃ m, k = m + 1 := ⟨k - 1, by omega⟩
    simp only [slices_Reverse_byte_byte.l0]
    rw [if_neg (by unfold wrap64; simp)]
    rfl
  · have hp := List.length_pos_iff.2 h0
    rw [show wrap64 ((x.length : Int) - 1) = ((x.length - 1 : Nat) : Int) from by unfold wrap64; omega]
    obtain ⟨r, hr, hrl, hrp⟩ := reverse_loop x.length (by omega) (x.length) x 0 (x.length - 1) k rfl (by omega) (by omega) (by omega) (by omega)
    refine hr.trans ?_
    congr 1
    apply List.ext_getElem?
    intro p
    by_cases hp' : p < x.length
    · rw [hrp p hp', if_pos (by omega), List.getElem?_reverse hp']
      congr 1
      omega
    · rw [List.getElem?_eq_none (by omega), List.getElem?_eq_none (by rw [List.length_reverse]; omega)]
theorem adec_l0 (sg : ByteArray) (hs : sg.size ≤ 1) : ∀ (u : Nat) (k : Nat) (acc : List UInt8), u < 18446744073709551616 → acc.length + (revDig u).length < 100000 → 2 * (revDig u).length + acc.length + 10 < k →
    ascii_Decimal.l0 k (u : Int) sg (nums8 acc) = some (sg ++ ba (acc ++ revDig u).reverse) := by
  intro u
  induction u using Nat.strongRecOn with
  | ind u ih =>
    intro k acc hu hl hk
    obtain ⟨k, rfl⟩ : ∃ m, k = m + 1 := ⟨k - 1, by omega⟩
    simp only [ascii_Decimal.l0]
    by_cases h0 : u = 0
    · subst h0
      rw [revDig_zero] at hk hl ⊢
      simp only [List.length_nil, Nat.add_zero, Nat.mul_zero, Nat.zero_add] at hk hl
      rw [if_neg (by simp), reverse_eq _ _ (by rw [nums8_len]; omega) (by rw [nums8_len]; omega)]
      simp only [Option.bind_some]
      have e : strOfNums (nums8 acc).reverse = ba acc.reverse := by
        rw [← str_nums8]; congr 1; simp [nums8]
      rw [e, if_pos (by rw [ba_size, List.length_reverse]; omega)]
      simp
    · have hr := revDig_pos u h0
      rw [hr] at hl hk ⊢
      rw [List.length_cons] at hl hk
      rw [if_pos (by omega), if_pos (by rw [nums8_len]; omega), tdiv_ten u hu, digit_byte, nums8_snoc,
        ih (u / 10) (by omega) k _ (by omega) (by rw [List.length_append, List.length_singleton]; omega) (by rw [List.length_append, List.length_singleton]; omega)]
      simp
theorem ascii_decimal_eq (n : Nat) (h : n < 9223372036854775808) (k : Nat) (hk : 100 < k) : ascii_Decimal.f k (n : Int) = some (ba (Web.decimal n)) := by
  obtain ⟨k, rfl⟩ : ∃ m, k = m + 1 := ⟨k - 1, by omega⟩
  unfold ascii_Decimal.f
  rw [if_neg (by omega), u64_small (by omega) (by omega)]
  simp only [ascii_Decimal.j0]
  rw [tdiv_ten n (by omega), digit_byte]
  have hl := revDig_len 20 (n / 10) (by omega)
  have := adec_l0 (⟨#[]⟩ : ByteArray) (by decide) (n / 10) k [UInt8.ofNat (48 + n % 10)] (by omega) (by simp; omega) (by simp; omega)
  refine this.trans ?_
  congr 1
  have e : Web.decimal n = ([UInt8.ofNat (48 + n % 10)] ++ revDig (n / 10)).reverse := by
    by_cases h0 : n = 0
    · subst h0; rw [decimal_zero, revDig_zero]; rfl
    · rw [decimal_rev n h0, revDig_pos n h0]; rfl
  rw [e]
  exact ba_append [] _
end Go.Proofs.YtcmcopieagpppaaGreatDoor.P
namespace Go.Proofs.YtcmcopieagpppaaGreatDoor.P
open Go.RowKit Go.Proofs.YtcmcopieagpppaaGreatDoorW.PrintWords Go.Proofs.YtcmcopieagpppaaGreatDoorW.PrintLast Go.Proofs.YtcmcopieagpppaaGreatDoorW.PrintMore
set_option linter.unusedVariables false
set_option linter.unusedSimpArgs false
theorem ascii_decimal_calls (x : Int) (w : World) (h0 : 0 ≤ x) (h1 : x < 9223372036854775808) :
    Calls Tryz.prog 69 #[.int .i64 x] w fun e w' => e = .returned (.string (ba (Web.decimal x.toNat))) ∧ Below w.heap.size w w' := by
  obtain ⟨n, rfl⟩ := Int.eq_ofNat_of_zero_le h0
  exact ascii_Decimal.calls 101 _ _ w (ascii_decimal_eq n (by omega) 101 (by omega))
theorem ref_decimal_calls (x : Int) (w : World) (h0 : 0 ≤ x) (h1 : x < 9223372036854775808) :
    Calls Tryz.prog 70 #[.int .i64 x] w fun e w' => e = .returned (.string (ba (Web.decimal x.toNat))) ∧ Below w.heap.size w w' := by
  obtain ⟨n, rfl⟩ := Int.eq_ofNat_of_zero_le h0
  exact parapetref1_Decimal.calls 101 _ _ w (ref_decimal_eq n (by omega) 101 (by omega))
theorem and_255 (x : Int) (h0 : 0 ≤ x) (h1 : x < 4294967296) : Go.bits .and .u32 x 255 = x % 256 := by
  obtain ⟨n, rfl⟩ := Int.eq_ofNat_of_zero_le h0
  have h := u32_and_nat n 255 (by omega) (by omega)
  have e : n &&& 255 = n % 256 := Nat.and_two_pow_sub_one_eq_mod n 8
  rw [e] at h
  exact h.trans (by omega)
theorem ascii_decimal_out (x : Int) (w : World) (h0 : 0 ≤ x) (h1 : x < 9223372036854775808) :
    Calls Tryz.prog 69 #[.int .i64 x] w fun e w' => ∃ d : ByteArray, e = .returned (.string d) ∧ Hid (d = ba (Web.decimal x.toNat)) ∧ d.size ≤ 20 ∧ Below w.heap.size w w' :=
  (ascii_decimal_calls x w h0 h1).mono fun _ _ ⟨he, hb⟩ => ⟨_, he, Lib.hid rfl, by rw [ba_size]; exact decimal_len _ (by omega), hb⟩
theorem ref_decimal_out (x : Int) (w : World) (h0 : 0 ≤ x) (h1 : x < 9223372036854775808) :
    Calls Tryz.prog 70 #[.int .i64 x] w fun e w' => ∃ d : ByteArray, e = .returned (.string d) ∧ Hid (d = ba (Web.decimal x.toNat)) ∧ d.size ≤ 20 ∧ Below w.heap.size w w' :=
  (ref_decimal_calls x w h0 h1).mono fun _ _ ⟨he, hb⟩ => ⟨_, he, Lib.hid rfl, by rw [ba_size]; exact decimal_len _ (by omega), hb⟩
set_option maxRecDepth 100000 in
set_option maxHeartbeats 1000000 in
theorem host_text_walk (a : Int) (w : World) (h0 : 0 ≤ a) (h1 : a < 4294967296) :
    Calls Tryz.prog 107 #[.int .u32 a] w fun e w' => e = .returned (.string (ba (Web.addrText a.toNat))) ∧ Below w.heap.size w w' := by
  have e1 := and_255 (a / 65536) (by omega) (by omega)
  have e2 := and_255 (a / 256) (by omega) (by omega)
  have e3 := and_255 a (by omega) (by omega)
  go_enter Tryz.func107, Tryz.ntmps107
  go_wp2_with fail
  refine (ascii_decimal_out _ _ (by omega) (by omega)).mono ?_
  rintro e w1 ⟨d1, rfl, H1, s1, b1⟩
  go_wp2_with fail
  refine (ascii_decimal_out _ _ (by omega) (by omega)).mono ?_
  rintro e w2 ⟨d2, rfl, H2, s2, b2⟩
  go_wp2_with fail
  refine (ascii_decimal_out _ _ (by omega) (by omega)).mono ?_
  rintro e w3 ⟨d3, rfl, H3, s3, b3⟩
  go_wp2_with fail
  refine (ascii_decimal_out _ _ (by omega) (by omega)).mono ?_
  rintro e w4 ⟨d4, rfl, H4, s4, b4⟩
  go_wp2_with fail
  go_ret
  refine ⟨?_, below_step (below_step (below_step b1 b2) b3) b4⟩
  have fin : d1 ++ (⟨#[46]⟩ : ByteArray) ++ d2 ++ ⟨#[46]⟩ ++ d3 ++ ⟨#[46]⟩ ++ d4 = ba (Web.addrText a.toNat) := by
    rw [H1.out, H2.out, H3.out, H4.out, show (⟨#[46]⟩ : ByteArray) = ba [46] from rfl]
    simp only [ba_append]
    unfold Web.addrText
    rw [show (a / 16777216).toNat = a.toNat / 16777216 from by omega, show (a / 65536 % 256).toNat = a.toNat / 65536 % 256 from by omega,
      show (a / 256 % 256).toNat = a.toNat / 256 % 256 from by omega, show (a % 256).toNat = a.toNat % 256 from by omega]
  rw [← fin]
  rfl
def host_Text.f (a0 : Int) : Option ByteArray := if 0 ≤ a0 ∧ a0 < 4294967296 then some (ba (Web.addrText a0.toNat)) else none
theorem host_Text.calls (a0 : Int) (r : ByteArray) (w : World) (h : host_Text.f a0 = some r) :
    Calls Tryz.prog 107 #[.int .u32 a0] w fun e w' => e = .returned (.string r) ∧ Below w.heap.size w w' := by
  unfold host_Text.f at h
  by_cases hs : 0 ≤ a0 ∧ a0 < 4294967296
  · rw [if_pos hs] at h
    replace h := Option.some.inj h
    subst h
    exact host_text_walk a0 w hs.1 hs.2
  · rw [if_neg hs] at h
    cases h
end Go.Proofs.YtcmcopieagpppaaGreatDoor.P
namespace Go.Proofs.YtcmcopieagpppaaGreatDoor.P
open Go.RowKit Go.Proofs.YtcmcopieagpppaaGreatDoorW.PrintWords Go.Proofs.YtcmcopieagpppaaGreatDoorW.PrintLast Go.Proofs.YtcmcopieagpppaaGreatDoorW.PrintMore
set_option linter.unusedVariables false
set_option linter.unusedSimpArgs false
theorem dec_nil : Web.dec [] = [] := by rw [Web.dec]
theorem dec_esc (a b : UInt8) (t : List UInt8) (x y : Nat) (ha : Web.hexV a = some x) (hb : Web.hexV b = some y) : Web.dec (37 :: a :: b :: t) = UInt8.ofNat (16 * x + y) :: Web.dec t := by
  rw [Web.dec]
  simp [ha, hb]
theorem dec_plain (c : UInt8) (t : List UInt8) (h : ∀ a b t', c = 37 → t = a :: b :: t' → (Web.hexV a = none ∨ Web.hexV b = none)) : Web.dec (c :: t) = c :: Web.dec t := by
  match t, h with
  | [], h => simp [Web.dec]
  | [a], h => simp [Web.dec]
  | a :: b :: t', h =>
    rw [Web.dec]
    by_cases hc : c = 37
    · rcases h a b t' hc rfl with e | e
      · simp [hc, e]
      · rw [if_pos hc]
        cases Web.hexV a <;> simp [e]
    · simp [hc]
theorem dec_len : ∀ (n : Nat) (l : List UInt8), l.length ≤ n → (Web.dec l).length ≤ l.length
  | 0, l, h => by
    obtain rfl : l = [] := List.eq_nil_of_length_eq_zero (by omega)
    rw [dec_nil]; exact Nat.le_refl _
  | n + 1, [], h => by rw [dec_nil]; exact Nat.le_refl _
  | n + 1, c :: t, h => by
    simp only [List.length_cons] at h
    by_cases hp : ∀ a b t', c = 37 → t = a :: b :: t' → (Web.hexV a = none ∨ Web.hexV b = none)
    · rw [dec_plain c t hp]
      have := dec_len n t (by omega)
      simp only [List.length_cons]
      omega
    · obtain ⟨a, b, t', hc, ht, hn⟩ : ∃ a b t', c = 37 ∧ t = a :: b :: t' ∧ ¬ (Web.hexV a = none ∨ Web.hexV b = none) := by
        apply Classical.byContradiction
        intro hh
        exact hp fun a b t' h1 h2 => Classical.byContradiction fun h3 => hh ⟨a, b, t', h1, h2, h3⟩
      subst hc ht
      cases ha : Web.hexV a with
      | none => exact absurd (.inl ha) hn
      | some x =>
        cases hb : Web.hexV b with
        | none => exact absurd (.inr hb) hn
        | some y =>
          rw [dec_esc a b t' x y ha hb]
          simp only [List.length_cons] at h ⊢
          have := dec_len n t' (by omega)
          omega
theorem last_part (l : List UInt8) : (Web.partsOf l).getLast?.getD [] = (Web.partsOf l)[(Web.partsOf l).length - 1]'(by have := List.length_pos_iff.2 (partsOf_ne l); omega) := by
  rw [getLast_at _ (partsOf_ne l)]
  rfl
def hostP (l : List UInt8) : ByteArray × Int := match Web.host l with
  | some h => (ba h, 0)
  | none => (⟨#[]⟩, 8)
end Go.Proofs.YtcmcopieagpppaaGreatDoor.P
namespace Go.Proofs.YtcmcopieagpppaaGreatDoor.P
open Go.RowKit Go.Proofs.YtcmcopieagpppaaGreatDoorW.PrintWords Go.Proofs.YtcmcopieagpppaaGreatDoorW.PrintLast Go.Proofs.YtcmcopieagpppaaGreatDoorW.PrintMore
attribute [local go_sem] max2_int min2_int max_two min_two max_three min_three max_four min_four
set_option linter.unusedVariables false
set_option linter.unusedSimpArgs false
mutual
def parapetref9_Default.j0 : Nat → ByteArray → Bool → Option (Int × Bool)
  | 0, _, _ => none
  | k + 1, x4, x5 => if x5 = true then (some (80, true)) else (if x4.toList = ([104, 116, 116, 112, 115] : List UInt8) then (parapetref9_Default.j1 k x4 (x4.toList == ([104, 116, 116, 112, 115] : List UInt8))) else (parapetref9_Default.j1 k x4 (x4.toList == ([119, 115, 115] : List UInt8))))
def parapetref9_Default.j1 : Nat → ByteArray → Bool → Option (Int × Bool)
  | 0, _, _ => none
  | k + 1, x4, x8 => if x8 = true then (some (443, true)) else (if x4.toList = ([102, 116, 112] : List UInt8) then (some (21, true)) else (some (0, false)))
end
def parapetref9_Default.f (k : Nat) (a0 : ByteArray) : Option (Int × Bool) := if a0.toList = ([104, 116, 116, 112] : List UInt8) then (parapetref9_Default.j0 k a0 (a0.toList == ([104, 116, 116, 112] : List UInt8))) else (parapetref9_Default.j0 k a0 (a0.toList == ([119, 115] : List UInt8)))
set_option maxHeartbeats 8000000 in
set_option maxRecDepth 100000 in
theorem parapetref9_Default.calls (k : Nat) (a0 : ByteArray) (r1 : Int) (r2 : Bool) (w : World) (h : parapetref9_Default.f k a0 = some (r1, r2)) :
    Calls Tryz.prog 26 #[.string a0] w fun e w' => e = .returned (.tuple #[.int .i64 r1, .bool r2]) ∧ Drawn0 w w' := by
  have H : (if a0.toList = ([104, 116, 116, 112] : List UInt8) then (parapetref9_Default.j0 k a0 (a0.toList == ([104, 116, 116, 112] : List UInt8))) else (parapetref9_Default.j0 k a0 (a0.toList == ([119, 115] : List UInt8)))) = some (r1, r2) := h
  clear h
  have HC2 := Aside0.mk H
  clear H
  go_enter Tryz.func26, Tryz.ntmps26
  go_upto_if 5 with (fail)
  go_cut [5] (fun v5 wc => ∃ (kq : Nat) (x5_1 : Bool), v5 = .bool x5_1 ∧ Aside0 (parapetref9_Default.j0 kq a0 x5_1 = some (r1, r2)) ∧ Aside0 (kq ≤ k) ∧ Drawn0 w wc)
  case first =>
    have H := HC2.out
    clear HC2
    by_cases c3 : a0.toList = ([104, 116, 116, 112] : List UInt8)
    · rw [if_pos c3] at H
      have c3b0 : (a0.toList == ([104, 116, 116, 112] : List UInt8)) = true := beq_iff_eq.mpr c3
      have c3b1 : (a0.toList != ([104, 116, 116, 112] : List UInt8)) = false := bne_eq_false_iff_eq.mpr c3
      clear c3
      (first | rw [c3b0] | (simp only [i64_w, i32_w]; rw [c3b0]) | skip)
      have H' := Aside0.mk H
      clear H
      go_wp2
      go_meet
      case rel => exact ⟨_, ((a0.toList == ([104, 116, 116, 112] : List UInt8))), (by first | rfl | (simp; done) | (simp [*]; done)), H', ⟨by first | omega | exact Nat.le_refl _⟩, by repeat (first | exact Drawn0.refl _ | apply Drawn0.step)⟩
    · rw [if_neg c3] at H
      have c3b0 : (a0.toList == ([104, 116, 116, 112] : List UInt8)) = false := beq_eq_false_iff_ne.mpr c3
      have c3b1 : (a0.toList != ([104, 116, 116, 112] : List UInt8)) = true := bne_iff_ne.mpr c3
      (first | rw [c3b0] | (simp only [i64_w, i32_w]; rw [c3b0]) | skip)
      have H' := Aside0.mk H
      clear H
      go_wp2
      go_meet
      case rel => exact ⟨_, ((a0.toList == ([119, 115] : List UInt8))), (by first | rfl | (simp; done) | (simp [*]; done)), H', ⟨by first | omega | exact Nat.le_refl _⟩, by repeat (first | exact Drawn0.refl _ | apply Drawn0.step)⟩
  case rest =>
    clear HC2
    try clear c2
    try clear p2
    try clear c3
    try clear c3b0
    try clear c3b1
    obtain ⟨kq, x5_1, rfl, HA, HJ1, ⟨mc1, rfl⟩⟩ := hcut
    cases kq with
    | zero => exact absurd HA.out (by simp [parapetref9_Default.j0])
    | succ kj1 =>
      have H := HA.out
      clear HA
      simp only [parapetref9_Default.j0] at H
      by_cases c4 : x5_1 = true
      · subst c4
        have H1 : (some (80, true)) = some (r1, r2) := by rw [if_pos rfl] at H; exact H
        clear H
        have H := H1
        clear H1
        simp only [Option.some.injEq, Prod.mk.injEq] at H
        obtain ⟨rfl, rfl⟩ := H
        go_wp2
        go_ret2
        exact ⟨by first | rfl | (simp; done) | (simp [*]; done), by repeat (first | exact Drawn0.refl _ | apply Drawn0.step)⟩
      · replace c4 := Bool.eq_false_iff.mpr c4
        subst c4
        have H1 : (if a0.toList = ([104, 116, 116, 112, 115] : List UInt8) then (parapetref9_Default.j1 kj1 a0 (a0.toList == ([104, 116, 116, 112, 115] : List UInt8))) else (parapetref9_Default.j1 kj1 a0 (a0.toList == ([119, 115, 115] : List UInt8)))) = some (r1, r2) := by rw [if_neg (show ¬ (false = true) by decide)] at H; exact H
        clear H
        have H := H1
        clear H1
        have HC5 := Aside0.mk H
        clear H
        go_upto_if 8 with (fail)
        go_cut [8] (fun v8 wc => ∃ (kq : Nat) (x8_4 : Bool), v8 = .bool x8_4 ∧ Aside0 (parapetref9_Default.j1 kq a0 x8_4 = some (r1, r2)) ∧ Aside0 (kq ≤ kj1) ∧ Drawn0 w wc)
        case first =>
          have H := HC5.out
          clear HC5
          by_cases c6 : a0.toList = ([104, 116, 116, 112, 115] : List UInt8)
          · rw [if_pos c6] at H
            have c6b0 : (a0.toList == ([104, 116, 116, 112, 115] : List UInt8)) = true := beq_iff_eq.mpr c6
            have c6b1 : (a0.toList != ([104, 116, 116, 112, 115] : List UInt8)) = false := bne_eq_false_iff_eq.mpr c6
            clear c6
            (first | rw [c6b0] | (simp only [i64_w, i32_w]; rw [c6b0]) | skip)
            have H' := Aside0.mk H
            clear H
            go_wp2
            go_meet
            case rel => exact ⟨_, ((a0.toList == ([104, 116, 116, 112, 115] : List UInt8))), (by first | rfl | (simp; done) | (simp [*]; done)), H', ⟨by have := HJ1.out; first | omega | exact Nat.le_refl _⟩, by repeat (first | exact Drawn0.refl _ | apply Drawn0.step)⟩
          · rw [if_neg c6] at H
            have c6b0 : (a0.toList == ([104, 116, 116, 112, 115] : List UInt8)) = false := beq_eq_false_iff_ne.mpr c6
            have c6b1 : (a0.toList != ([104, 116, 116, 112, 115] : List UInt8)) = true := bne_iff_ne.mpr c6
            (first | rw [c6b0] | (simp only [i64_w, i32_w]; rw [c6b0]) | skip)
            have H' := Aside0.mk H
            clear H
            go_wp2
            go_meet
            case rel => exact ⟨_, ((a0.toList == ([119, 115, 115] : List UInt8))), (by first | rfl | (simp; done) | (simp [*]; done)), H', ⟨by have := HJ1.out; first | omega | exact Nat.le_refl _⟩, by repeat (first | exact Drawn0.refl _ | apply Drawn0.step)⟩
        case rest =>
          clear HC5
          try clear c1
          try clear c2
          try clear p2
          try clear c3
          try clear c3b0
          try clear c3b1
          try clear c4
          try clear c6
          try clear c6b0
          try clear c6b1
          try clear p2
          obtain ⟨kq, x8_4, rfl, HA, HJ4, ⟨mc4, rfl⟩⟩ := hcut
          cases kq with
          | zero => exact absurd HA.out (by simp [parapetref9_Default.j1])
          | succ kj4 =>
            have H := HA.out
            clear HA
            simp only [parapetref9_Default.j1] at H
            by_cases c7 : x8_4 = true
            · subst c7
              have H1 : (some (443, true)) = some (r1, r2) := by rw [if_pos rfl] at H; exact H
              clear H
              have H := H1
              clear H1
              simp only [Option.some.injEq, Prod.mk.injEq] at H
              obtain ⟨rfl, rfl⟩ := H
              go_wp2
              go_ret2
              exact ⟨by first | rfl | (simp; done) | (simp [*]; done), by repeat (first | exact Drawn0.refl _ | apply Drawn0.step)⟩
            · replace c7 := Bool.eq_false_iff.mpr c7
              subst c7
              have H1 : (if a0.toList = ([102, 116, 112] : List UInt8) then (some (21, true)) else (some (0, false))) = some (r1, r2) := by rw [if_neg (show ¬ (false = true) by decide)] at H; exact H
              clear H
              have H := H1
              clear H1
              by_cases c8 : a0.toList = ([102, 116, 112] : List UInt8)
              · rw [if_pos c8] at H
                have c8b0 : (a0.toList == ([102, 116, 112] : List UInt8)) = true := beq_iff_eq.mpr c8
                have c8b1 : (a0.toList != ([102, 116, 112] : List UInt8)) = false := bne_eq_false_iff_eq.mpr c8
                clear c8
                simp only [Option.some.injEq, Prod.mk.injEq] at H
                obtain ⟨rfl, rfl⟩ := H
                go_wp2
                go_ret2
                exact ⟨by first | rfl | (simp; done) | (simp [*]; done), by repeat (first | exact Drawn0.refl _ | apply Drawn0.step)⟩
              · rw [if_neg c8] at H
                have c8b0 : (a0.toList == ([102, 116, 112] : List UInt8)) = false := beq_eq_false_iff_ne.mpr c8
                have c8b1 : (a0.toList != ([102, 116, 112] : List UInt8)) = true := bne_iff_ne.mpr c8
                simp only [Option.some.injEq, Prod.mk.injEq] at H
                obtain ⟨rfl, rfl⟩ := H
                go_wp2
                go_ret2
                exact ⟨by first | rfl | (simp; done) | (simp [*]; done), by repeat (first | exact Drawn0.refl _ | apply Drawn0.step)⟩
end Go.Proofs.YtcmcopieagpppaaGreatDoor.P
namespace Go.Proofs.YtcmcopieagpppaaGreatDoor.P
open Go.RowKit Go.Proofs.YtcmcopieagpppaaGreatDoorW.PrintWords Go.Proofs.YtcmcopieagpppaaGreatDoorW.PrintLast Go.Proofs.YtcmcopieagpppaaGreatDoorW.PrintMore
set_option linter.unusedVariables false
set_option linter.unusedSimpArgs false
def bs (s : ByteArray) : List UInt8 := s.data.toList
theorem bs_ba (l : List UInt8) : bs (ba l) = l := rfl
theorem ba_bs (s : ByteArray) : ba (bs s) = s := rfl
theorem bs_len (s : ByteArray) : (bs s).length = s.size := size_list s
theorem bs_toList (s : ByteArray) : s.toList = bs s := Lib.toList_data s
theorem dropWhile_len {α : Type} (p : α → Bool) (l : List α) : (l.dropWhile p).length ≤ l.length := (List.dropWhile_sublist p).length_le
theorem trim_len (l : List UInt8) : (Web.trim l).length ≤ l.length := by
  unfold Web.trim
  rw [List.length_reverse]
  refine Nat.le_trans (dropWhile_len _ _) ?_
  rw [List.length_reverse]
  exact dropWhile_len _ _
theorem clean_len (l : List UInt8) : (Web.clean l).length ≤ l.length := Nat.le_trans (List.length_filter_le _ _) (trim_len l)
def portP (l : List UInt8) : Int × Bool := match Web.port? l with
  | some d => ((d : Int), true)
  | none => (0, false)
theorem ref_default_eq (l : List UInt8) (k : Nat) : parapetref9_Default.f (k + 3) (ba l) = some (portP l) := by
  have e := ba_toList l
  simp only [parapetref9_Default.f, parapetref9_Default.j0, parapetref9_Default.j1, e]
  unfold portP Web.port?
  by_cases h1 : l = [104, 116, 116, 112]
  · subst h1; rfl
  by_cases h2 : l = [119, 115]
  · subst h2; rfl
  by_cases h3 : l = [104, 116, 116, 112, 115]
  · subst h3; rfl
  by_cases h4 : l = [119, 115, 115]
  · subst h4; rfl
  by_cases h5 : l = [102, 116, 112]
  · subst h5; rfl
  simp [h1, h2, h3, h4, h5]
theorem ref_default_c (s : ByteArray) (w : World) :
    Calls Tryz.prog 26 #[.string s] w fun e w' => e = .returned (.tuple #[.int .i64 (portP (bs s)).1, .bool (portP (bs s)).2]) ∧ Below w.heap.size w w' :=
  (parapetref9_Default.calls 3 s _ _ w (ref_default_eq (bs s) 0)).mono fun e w' ⟨he, hd⟩ => ⟨he, hd.below⟩
end Go.Proofs.YtcmcopieagpppaaGreatDoor.P
namespace Go.Proofs.YtcmcopieagpppaaGreatDoor.P
open Go.RowKit Go.Proofs.YtcmcopieagpppaaGreatDoorW.PrintWords Go.Proofs.YtcmcopieagpppaaGreatDoorW.PrintLast Go.Proofs.YtcmcopieagpppaaGreatDoorW.PrintMore
set_option linter.unusedVariables false
set_option linter.unusedSimpArgs false
def lastAt (l : List UInt8) : Nat → Int
  | 0 => -1
  | i + 1 => if l[i]? = some 64 then (i : Int) else lastAt l i
theorem lastAt_lt (l : List UInt8) : ∀ i : Nat, -1 ≤ lastAt l i ∧ lastAt l i < (i : Int)
  | 0 => by simp [lastAt]
  | i + 1 => by
    have := lastAt_lt l i
    unfold lastAt
    split <;> omega
theorem bs_get (s : ByteArray) (i : Nat) (h : i < s.size) : (bs s)[i]? = some s[i] := by
  have : i < (bs s).length := by rw [bs_len]; exact h
  rw [List.getElem?_eq_getElem this]
  rfl
theorem bs_extract (s : ByteArray) (i j : Nat) : bs (s.extract i j) = ((bs s).take j).drop i := congrArg bs (ba_extract (bs s) i j)
theorem bs_rest (s : ByteArray) (i : Nat) : bs (s.extract i s.size) = (bs s).drop i := by rw [bs_extract, ← bs_len, List.take_length]
theorem bs_head (s : ByteArray) (j : Nat) : bs (s.extract 0 j) = (bs s).take j := by rw [bs_extract, List.drop_zero]
theorem lastAt_spec (l : List UInt8) : ∀ i : Nat, i ≤ l.length → (lastAt l i = -1 ∧ 64 ∉ l.take i) ∨ ∃ k : Nat, k < i ∧ lastAt l i = (k : Int) ∧ l[k]? = some 64 ∧ 64 ∉ (l.take i).drop (k + 1)
  | 0, _ => .inl (by simp [lastAt])
  | i + 1, h => by
    have hi : i < l.length := by omega
    unfold lastAt
    by_cases c : l[i]? = some 64
    · rw [if_pos c]
      refine .inr ⟨i, by omega, rfl, c, ?_⟩
      rw [List.drop_of_length_le (by rw [List.length_take]; omega)]
      simp
    · rw [if_neg c]
      have c' : 64 ∉ [l[i]] := by
        rw [List.getElem?_eq_getElem hi] at c
        intro h'
        exact c (by rw [List.mem_singleton] at h'; rw [← h'])
      have et : l.take (i + 1) = l.take i ++ [l[i]] := by rw [List.take_add_one, List.getElem?_eq_getElem hi]; rfl
      rcases lastAt_spec l i (by omega) with ⟨h1, h2⟩ | ⟨k, h1, h2, h3, h4⟩
      · left
        refine ⟨h1, ?_⟩
        rw [et, List.mem_append]
        exact fun h => h.elim h2 c'
      · right
        refine ⟨k, by omega, h2, h3, ?_⟩
        rw [et, List.drop_append_of_le_length (by rw [List.length_take]; omega), List.mem_append]
        exact fun h => h.elim h4 c'
theorem userHost_no (l : List UInt8) (h : lastAt l l.length < 0) : Web.userHost l = (none, l) := by
  rcases lastAt_spec l l.length (Nat.le_refl _) with ⟨h1, h2⟩ | ⟨k, h1, h2, h3, h4⟩
  · rw [List.take_length] at h2
    unfold Web.userHost
    rw [if_neg (by simpa using h2)]
  · omega
theorem userHost_at (l : List UInt8) (k : Nat) (h : lastAt l l.length = (k : Int)) : Web.userHost l = (some (l.take k), l.drop (k + 1)) := by
  rcases lastAt_spec l l.length (Nat.le_refl _) with ⟨h1, h2⟩ | ⟨k', h1, h2, h3, h4⟩
  · omega
  · obtain rfl : k' = k := by omega
    rw [List.take_length] at h4
    have e : l = l.take k' ++ 64 :: l.drop (k' + 1) := by
      have := (List.take_append_drop k' l).symm
      rw [List.drop_eq_getElem_cons h1] at this
      rw [List.getElem?_eq_getElem h1] at h3
      rw [Option.some.inj h3] at this
      exact this
    generalize l.take k' = A at e ⊢
    generalize l.drop (k' + 1) = B at e h4 ⊢
    subst e
    unfold Web.userHost
    rw [if_pos (by simp)]
    have d : (A ++ 64 :: B).reverse = B.reverse ++ 64 :: A.reverse := by simp
    have hB : ∀ x ∈ B.reverse, (x != 64) = true := by
      intro x hx
      rw [bne_iff_ne]
      rintro rfl
      exact h4 (by simpa using hx)
    rw [d, List.dropWhile_append_of_pos hB, List.takeWhile_append_of_pos hB]
    simp
def userEnc : Option (List UInt8) → List UInt8 × List UInt8
  | none => ([], [])
  | some u => (Web.enc 4 (Web.brk (· == 58) u).1, Web.enc 4 ((Web.brk (· == 58) u).2.drop 1))
theorem auth_def (d : Nat) (a : List UInt8) : Web.auth d a = match Web.host (Web.brk (· == 58) (Web.userHost a).2).1, Web.portOf d ((Web.brk (· == 58) (Web.userHost a).2).2.drop 1) with
    | some h, some p => some ((userEnc (Web.userHost a).1).1, (userEnc (Web.userHost a).1).2, h, p)
    | _, _ => none := by
  unfold Web.auth
  dsimp only
  cases (Web.userHost a).1 <;> rfl
def authIs (d : Nat) (a : List UInt8) (b : Bool) (u p h : List UInt8) (n : Int) : Prop := match Web.auth d a with
  | none => b = false
  | some r => b = true ∧ r = (u, p, h, n)
theorem is58 (c : UInt8) : [58].contains c = (c == 58) := by simp [Bool.beq_eq_decide_eq]
theorem below_g {B : Nat} {w w1 w2 : World} (h : Below B w w1) (hB : B ≤ w1.heap.size) (k : Below w1.heap.size w1 w2) : Below B w w2 := below_then h hB k
theorem below_gset {g : Nat} {w w1 : World} (h : Below g w w1) (j : Nat) (v : Value) : Below g w (w1.setCell ⟨g, j, none⟩ v) := h.setCell (Nat.le_refl _) _
theorem dig10 (c : UInt8) (v : Nat) (h : Web.hexV c = some v) (hv : v < 10) : c.toNat = 48 + v ∧ v < 10 := by
  unfold Web.hexV at h
  split at h
  · have := Option.some.inj h; omega
  · split at h
    · have := Option.some.inj h; omega
    · split at h
      · have := Option.some.inj h; omega
      · cases h
end Go.Proofs.YtcmcopieagpppaaGreatDoor.P
namespace Go.Proofs.YtcmcopieagpppaaGreatDoor.P
open Go.RowKit Go.Proofs.YtcmcopieagpppaaGreatDoorW.PrintWords Go.Proofs.YtcmcopieagpppaaGreatDoorW.PrintLast Go.Proofs.YtcmcopieagpppaaGreatDoorW.PrintMore
set_option linter.unusedVariables false
set_option linter.unusedSimpArgs false
theorem splitBy_one (q : UInt8 → Bool) : ∀ a : List UInt8, (∀ x ∈ a, q x = false) → Web.splitBy q a = [a]
  | [], _ => rfl
  | c :: t, h => by
    rw [Web.splitBy, h c (by simp), splitBy_one q t (fun x hx => h x (by simp [hx]))]
    rfl
theorem splitBy_more (q : UInt8 → Bool) (c : UInt8) (b : List UInt8) (hc : q c = true) : ∀ a : List UInt8, (∀ x ∈ a, q x = false) → Web.splitBy q (a ++ c :: b) = a :: Web.splitBy q b
  | [], _ => by rw [List.nil_append, Web.splitBy, hc]; rfl
  | d :: t, h => by
    rw [List.cons_append, Web.splitBy, h d (by simp), splitBy_more q c b hc t (fun x hx => h x (by simp [hx]))]
    rfl
theorem splitBy_ne (q : UInt8 → Bool) : ∀ l, Web.splitBy q l ≠ []
  | [] => by simp [Web.splitBy]
  | c :: t => by
    rw [Web.splitBy]
    split
    · simp
    · split <;> simp
theorem segs_one (acc : List (List UInt8)) (p : List UInt8) : Web.segs acc [p] = Web.seg acc p true := rfl
theorem segs_more (acc : List (List UInt8)) (p : List UInt8) (r : List (List UInt8)) (h : r ≠ []) : Web.segs acc (p :: r) = Web.segs (Web.seg acc p false) r := by
  cases r with
  | nil => exact absurd rfl h
  | cons a b => rfl
def afterDots (L : List (List UInt8)) (p : List UInt8) : List (List UInt8) := if Web.dots p = 2 then L.dropLast else L
def DotB (b : Bool) (L : List (List UInt8)) (p : List UInt8) : Prop := (b = true ∧ L ≠ [] ∧ Web.dots p = 2) ∨ (b = false ∧ L = afterDots L p)
theorem afterDots_len (L : List (List UInt8)) (p : List UInt8) : (afterDots L p).length ≤ L.length := by
  unfold afterDots
  split
  · rw [List.length_dropLast]; omega
  · exact Nat.le_refl _
theorem afterDots_all {P : List UInt8 → Prop} (L : List (List UInt8)) (p : List UInt8) (h : ∀ x ∈ L, P x) : ∀ x ∈ afterDots L p, P x := by
  intro x hx
  unfold afterDots at hx
  split at hx
  · exact h x (List.dropLast_subset _ hx)
  · exact h x hx
end Go.Proofs.YtcmcopieagpppaaGreatDoor.P
namespace Go.Proofs.YtcmcopieagpppaaGreatDoor.P
open Go.RowKit Go.Proofs.YtcmcopieagpppaaGreatDoorW.PrintWords Go.Proofs.YtcmcopieagpppaaGreatDoorW.PrintLast Go.Proofs.YtcmcopieagpppaaGreatDoorW.PrintMore
set_option linter.unusedVariables false
set_option linter.unusedSimpArgs false
def urlV (u : Web.U) : Value := .agg #[.string (ba u.scheme), .string (ba u.user), .string (ba u.pass), .string (ba u.host), .int .i64 u.port, .string (ba u.path), .bool u.hasQ, .string (ba u.query), .bool u.hasF, .string (ba u.frag)]
def urlZ : Value := .agg #[.string ⟨#[]⟩, .string ⟨#[]⟩, .string ⟨#[]⟩, .string ⟨#[]⟩, .int .i64 0, .string ⟨#[]⟩, .bool false, .string ⟨#[]⟩, .bool false, .string ⟨#[]⟩]
def urlR : Option Web.U → Value
  | none => .tuple #[urlZ, .int .i64 8]
  | some u => .tuple #[urlV u, .int .i64 0]
def FB (w : World) (g : Nat) (u : Web.U) : Prop := w.heap[g]? = some (.cells #[.string (ba u.scheme), .string (ba u.user), .string (ba u.pass), .string (ba u.host), .int .i64 u.port, .string (ba u.path), .bool u.hasQ, .string (ba u.query), .bool u.hasF, .string (ba u.frag)] 24 (0, 0))
theorem isLetter_low (c : UInt8) (h : 97 ≤ (Web.lowerB c).toNat ∧ (Web.lowerB c).toNat ≤ 122) : isLetter c = true := by
  unfold isLetter
  by_cases h1 : 65 ≤ c.toNat ∧ c.toNat ≤ 90
  · rw [decide_eq_true h1, Bool.or_true]
  · rw [Web.lowerB_small h1] at h
    rw [decide_eq_true h]; rfl
theorem port_letters (l : List UInt8) (d : Nat) (h : Web.port? (Web.lowerL l) = some d) : l ≠ [] ∧ ∀ c ∈ l, isLetter c = true := by
  have key : Web.lowerL l ≠ [] ∧ ∀ x ∈ Web.lowerL l, 97 ≤ x.toNat ∧ x.toNat ≤ 122 := by
    unfold Web.port? at h
    split at h
    · rename_i e
      rcases e with e | e <;> rw [e] <;> exact ⟨by simp, by decide⟩
    · split at h
      · rename_i e
        rcases e with e | e <;> rw [e] <;> exact ⟨by simp, by decide⟩
      · split at h
        · rename_i e
          rw [e]; exact ⟨by simp, by decide⟩
        · cases h
  refine ⟨fun e => key.1 (by rw [e]; rfl), fun c hc => isLetter_low c (key.2 _ ?_)⟩
  exact List.mem_map_of_mem hc
theorem takeWhile_all (p : UInt8 → Bool) : ∀ (l : List UInt8) (x : UInt8), x ∈ l.takeWhile p → p x = true
  | c :: t, x, h => by
    by_cases hc : p c = true
    · rw [List.takeWhile_cons_of_pos hc] at h
      rcases List.mem_cons.1 h with rfl | h
      · exact hc
      · exact takeWhile_all p t x h
    · rw [List.takeWhile_cons_of_neg hc] at h
      cases h
theorem brk_app (q : UInt8 → Bool) (a : List UInt8) (c : UInt8) (b : List UInt8) (ha : ∀ x ∈ a, q x = false) (hc : q c = true) : Web.brk q (a ++ c :: b) = (a, c :: b) := by
  unfold Web.brk
  have h1 : ∀ x ∈ a, (!q x) = true := fun x hx => by rw [ha x hx]; rfl
  rw [List.takeWhile_append_of_pos h1, List.dropWhile_append_of_pos h1, List.takeWhile_cons_of_neg (by rw [hc]; decide), List.dropWhile_cons_of_neg (by rw [hc]; decide), List.append_nil]
def uZ : Web.U := ⟨[], [], [], [], 0, [], false, [], false, []⟩
theorem FB.new (w w1 : World) (g : Nat) (h : w1.heap[g]? = some (.cells #[.string ⟨#[]⟩, .string ⟨#[]⟩, .string ⟨#[]⟩, .string ⟨#[]⟩, .int .i64 0, .string ⟨#[]⟩, .bool false, .string ⟨#[]⟩, .bool false, .string ⟨#[]⟩] 24 (0, 0))) : FB w1 g uZ := h
theorem FB.below {w w1 : World} {g : Nat} {u : Web.U} (h : FB w g u) (hb : Below w.heap.size w w1) : FB w1 g u := blk_below h hb
theorem FB.lt {w : World} {g : Nat} {u : Web.U} (h : FB w g u) : g < w.heap.size := blk_lt h
theorem FB.f {w : World} {g : Nat} {u : Web.U} (h : FB w g u) (i : Nat) : w.frozen? ⟨g, i, none⟩ = false := blk_frozen h i
theorem FB.cells {w : World} {g : Nat} {u : Web.U} (h : FB w g u) : w.cell? ⟨g, 0, none⟩ = some (.string (ba u.scheme)) ∧ w.cell? ⟨g, 1, none⟩ = some (.string (ba u.user)) ∧ w.cell? ⟨g, 2, none⟩ = some (.string (ba u.pass)) ∧ w.cell? ⟨g, 3, none⟩ = some (.string (ba u.host)) ∧ w.cell? ⟨g, 4, none⟩ = some (.int .i64 u.port) ∧ w.cell? ⟨g, 5, none⟩ = some (.string (ba u.path)) ∧ w.cell? ⟨g, 6, none⟩ = some (.bool u.hasQ) ∧ w.cell? ⟨g, 7, none⟩ = some (.string (ba u.query)) ∧ w.cell? ⟨g, 8, none⟩ = some (.bool u.hasF) ∧ w.cell? ⟨g, 9, none⟩ = some (.string (ba u.frag)) :=
  ⟨(blk_cell h 0).trans rfl, (blk_cell h 1).trans rfl, (blk_cell h 2).trans rfl, (blk_cell h 3).trans rfl, (blk_cell h 4).trans rfl, (blk_cell h 5).trans rfl, (blk_cell h 6).trans rfl, (blk_cell h 7).trans rfl, (blk_cell h 8).trans rfl, (blk_cell h 9).trans rfl⟩
theorem FB.frozens {w : World} {g : Nat} {u : Web.U} (h : FB w g u) : w.frozen? ⟨g, 0, none⟩ = false ∧ w.frozen? ⟨g, 1, none⟩ = false ∧ w.frozen? ⟨g, 2, none⟩ = false ∧ w.frozen? ⟨g, 3, none⟩ = false ∧ w.frozen? ⟨g, 4, none⟩ = false ∧ w.frozen? ⟨g, 5, none⟩ = false ∧ w.frozen? ⟨g, 6, none⟩ = false ∧ w.frozen? ⟨g, 7, none⟩ = false ∧ w.frozen? ⟨g, 8, none⟩ = false ∧ w.frozen? ⟨g, 9, none⟩ = false :=
  ⟨h.f 0, h.f 1, h.f 2, h.f 3, h.f 4, h.f 5, h.f 6, h.f 7, h.f 8, h.f 9⟩
theorem FB.set0 {w : World} {g : Nat} {u : Web.U} (h : FB w g u) (x : List UInt8) : FB (w.setCell ⟨g, 0, none⟩ (.string (ba x))) g { u with scheme := x } := blk_put h 0 _ rfl
theorem FB.set1 {w : World} {g : Nat} {u : Web.U} (h : FB w g u) (x : List UInt8) : FB (w.setCell ⟨g, 1, none⟩ (.string (ba x))) g { u with user := x } := blk_put h 1 _ rfl
theorem FB.set2 {w : World} {g : Nat} {u : Web.U} (h : FB w g u) (x : List UInt8) : FB (w.setCell ⟨g, 2, none⟩ (.string (ba x))) g { u with pass := x } := blk_put h 2 _ rfl
theorem FB.set3 {w : World} {g : Nat} {u : Web.U} (h : FB w g u) (x : List UInt8) : FB (w.setCell ⟨g, 3, none⟩ (.string (ba x))) g { u with host := x } := blk_put h 3 _ rfl
theorem FB.set4 {w : World} {g : Nat} {u : Web.U} (h : FB w g u) (x : Int) : FB (w.setCell ⟨g, 4, none⟩ (.int .i64 x)) g { u with port := x } := blk_put h 4 _ rfl
theorem FB.set5 {w : World} {g : Nat} {u : Web.U} (h : FB w g u) (x : List UInt8) : FB (w.setCell ⟨g, 5, none⟩ (.string (ba x))) g { u with path := x } := blk_put h 5 _ rfl
theorem FB.set6 {w : World} {g : Nat} {u : Web.U} (h : FB w g u) (x : Bool) : FB (w.setCell ⟨g, 6, none⟩ (.bool x)) g { u with hasQ := x } := blk_put h 6 _ rfl
theorem FB.set7 {w : World} {g : Nat} {u : Web.U} (h : FB w g u) (x : List UInt8) : FB (w.setCell ⟨g, 7, none⟩ (.string (ba x))) g { u with query := x } := blk_put h 7 _ rfl
theorem FB.set8 {w : World} {g : Nat} {u : Web.U} (h : FB w g u) (x : Bool) : FB (w.setCell ⟨g, 8, none⟩ (.bool x)) g { u with hasF := x } := blk_put h 8 _ rfl
theorem FB.set9 {w : World} {g : Nat} {u : Web.U} (h : FB w g u) (x : List UInt8) : FB (w.setCell ⟨g, 9, none⟩ (.string (ba x))) g { u with frag := x } := blk_put h 9 _ rfl
theorem FB.put {w : World} {g : Nat} {u : Web.U} (h : FB w g u) (v : Web.U) : FB ((((((((((w.setCell ⟨g, 0, none⟩ (.string (ba v.scheme))).setCell ⟨g, 1, none⟩ (.string (ba v.user))).setCell ⟨g, 2, none⟩ (.string (ba v.pass))).setCell ⟨g, 3, none⟩ (.string (ba v.host))).setCell ⟨g, 4, none⟩ (.int .i64 v.port)).setCell ⟨g, 5, none⟩ (.string (ba v.path))).setCell ⟨g, 6, none⟩ (.bool v.hasQ)).setCell ⟨g, 7, none⟩ (.string (ba v.query))).setCell ⟨g, 8, none⟩ (.bool v.hasF)).setCell ⟨g, 9, none⟩ (.string (ba v.frag))) g v :=
  (((((((((h.set0 v.scheme).set1 v.user).set2 v.pass).set3 v.host).set4 v.port).set5 v.path).set6 v.hasQ).set7 v.query).set8 v.hasF).set9 v.frag
theorem put10 {B : Nat} {w w1 : World} (h : Below B w w1) {g : Nat} (hg : B ≤ g) {v0 v1 v2 v3 v4 v5 v6 v7 v8 v9 : Value} : Below B w ((((((((((w1.setCell ⟨g, 0, none⟩ v0).setCell ⟨g, 1, none⟩ v1).setCell ⟨g, 2, none⟩ v2).setCell ⟨g, 3, none⟩ v3).setCell ⟨g, 4, none⟩ v4).setCell ⟨g, 5, none⟩ v5).setCell ⟨g, 6, none⟩ v6).setCell ⟨g, 7, none⟩ v7).setCell ⟨g, 8, none⟩ v8).setCell ⟨g, 9, none⟩ v9) :=
  (((((((((h.setCell hg _).setCell hg _).setCell hg _).setCell hg _).setCell hg _).setCell hg _).setCell hg _).setCell hg _).setCell hg _).setCell hg _
theorem brk_cons (q : UInt8 → Bool) (c : UInt8) (t : List UInt8) : Web.brk q (c :: t) = if q c = true then ([], c :: t) else (c :: (Web.brk q t).1, (Web.brk q t).2) := by
  unfold Web.brk
  by_cases h : q c = true
  · rw [if_pos h, List.takeWhile_cons_of_neg (by rw [h]; decide), List.dropWhile_cons_of_neg (by rw [h]; decide)]
  · have h' : (!q c) = true := by rw [Bool.eq_false_iff.2 h]; rfl
    rw [if_neg h, List.takeWhile_cons_of_pos (p := fun c => !q c) h', List.dropWhile_cons_of_pos (p := fun c => !q c) h']
theorem isEnds (c : UInt8) : [47, 92, 63, 35].contains c = Web.ends c := by
  unfold Web.ends
  simp only [List.contains_cons, List.contains_nil, Bool.or_false, Bool.or_assoc]
theorem is35 (c : UInt8) : [35].contains c = (c == 35) := by simp [Bool.beq_eq_decide_eq]
theorem is63 (c : UInt8) : [63].contains c = (c == 63) := by simp [Bool.beq_eq_decide_eq]
theorem bs_cons (s : ByteArray) (h : 0 < s.size) : bs s = s[0] :: bs (s.extract 1 s.size) := by
  have h1 : 0 < (bs s).length := by rw [bs_len]; exact h
  rw [bs_rest]
  have := List.drop_eq_getElem_cons h1
  rw [List.drop_zero] at this
  exact this
def urlRest (d : Nat) (sch r0 : List UInt8) : Option Web.U :=
  match Web.auth d (Web.brk Web.ends (r0.dropWhile Web.slash)).1 with
  | none => none
  | some (user, pass, h, p) => some { scheme := sch, user := user, pass := pass, host := h, port := p, path := Web.path (Web.brk (fun c => c == 63 || c == 35) (Web.brk Web.ends (r0.dropWhile Web.slash)).2).1, hasQ := !(Web.brk (· == 35) (Web.brk (fun c => c == 63 || c == 35) (Web.brk Web.ends (r0.dropWhile Web.slash)).2).2).1.isEmpty, query := Web.enc 2 ((Web.brk (· == 35) (Web.brk (fun c => c == 63 || c == 35) (Web.brk Web.ends (r0.dropWhile Web.slash)).2).2).1.drop 1), hasF := !(Web.brk (· == 35) (Web.brk (fun c => c == 63 || c == 35) (Web.brk Web.ends (r0.dropWhile Web.slash)).2).2).2.isEmpty, frag := Web.enc 1 ((Web.brk (· == 35) (Web.brk (fun c => c == 63 || c == 35) (Web.brk Web.ends (r0.dropWhile Web.slash)).2).2).2.drop 1) }
theorem urlRest_some {d : Nat} {sch r0 u p h P q f : List UInt8} {n : Int} (ha : authIs d (Web.brk Web.ends (r0.dropWhile Web.slash)).1 true u p h n)
    (hp : Web.path (Web.brk (fun c => c == 63 || c == 35) (Web.brk Web.ends (r0.dropWhile Web.slash)).2).1 = P)
    (hq : Web.brk (· == 35) (Web.brk (fun c => c == 63 || c == 35) (Web.brk Web.ends (r0.dropWhile Web.slash)).2).2 = (q, f)) :
    urlRest d sch r0 = some ⟨sch, u, p, h, n, P, !q.isEmpty, Web.enc 2 (q.drop 1), !f.isEmpty, Web.enc 1 (f.drop 1)⟩ := by
  unfold urlRest
  rw [hp, hq]
  unfold authIs at ha
  generalize Web.auth d (Web.brk Web.ends (r0.dropWhile Web.slash)).1 = y at ha ⊢
  cases y with
  | none => cases ha
  | some y =>
    obtain ⟨_, rfl⟩ := ha
    rfl
theorem url_rest {l : List UInt8} {S r : List UInt8} {d : Nat} (hv : Lib.validD l = true) (hb : Web.brk (· == 58) (Web.clean l) = (S, 58 :: r)) (hp : Web.port? (Web.lowerL S) = some d) : Web.url l = urlRest d (Web.lowerL S) r := by
  unfold Web.url
  rw [hv, hb]
  dsimp only
  rw [hp]
  rfl
theorem url_none {l : List UInt8} (h : ∀ c r, (Web.brk (· == 58) (Web.clean l)).2 = c :: r → Web.port? (Web.lowerL (Web.brk (· == 58) (Web.clean l)).1) = none) : Web.url l = none := by
  unfold Web.url
  split
  · rfl
  · generalize Web.brk (· == 58) (Web.clean l) = x at h ⊢
    obtain ⟨a, b⟩ := x
    cases b with
    | nil => rfl
    | cons c r =>
      have := h c r rfl
      dsimp only at this ⊢
      rw [this]
end Go.Proofs.YtcmcopieagpppaaGreatDoor.P
namespace Go.Proofs.YtcmcopieagpppaaGreatDoor.P
open Go.RowKit Go.Proofs.YtcmcopieagpppaaGreatDoorW.PrintWords Go.Proofs.YtcmcopieagpppaaGreatDoorW.PrintLast Go.Proofs.YtcmcopieagpppaaGreatDoorW.PrintMore
attribute [local go_sem] max2_int min2_int max_two min_two max_three min_three max_four min_four
set_option linter.unusedVariables false
set_option linter.unusedSimpArgs false
def percent_extra.f (a0 : Int) : Option (ByteArray × Bool) := if a0 = 1 then (some ((⟨#[34, 60, 62, 96]⟩ : ByteArray), true)) else (if a0 = 2 then (some ((⟨#[34, 35, 39, 60, 62]⟩ : ByteArray), true)) else (if a0 = 3 then (some ((⟨#[34, 35, 60, 62, 63, 94, 96, 123, 125]⟩ : ByteArray), true)) else (if a0 = 4 then (some ((⟨#[34, 35, 60, 62, 63, 94, 96, 123, 125, 47, 58, 59, 61, 64, 91, 92, 93, 124]⟩ : ByteArray), true)) else (some ((⟨#[]⟩ : ByteArray), false)))))
set_option maxHeartbeats 8000000 in
set_option maxRecDepth 100000 in
theorem percent_extra.calls (a0 : Int) (r1 : ByteArray) (r2 : Bool) (w : World) (h : percent_extra.f a0 = some (r1, r2)) :
    Calls Tryz.prog 136 #[.int .i64 a0] w fun e w' => e = .returned (.tuple #[.string r1, .bool r2]) ∧ Drawn0 w w' := by
  have H : (if a0 = 1 then (some ((⟨#[34, 60, 62, 96]⟩ : ByteArray), true)) else (if a0 = 2 then (some ((⟨#[34, 35, 39, 60, 62]⟩ : ByteArray), true)) else (if a0 = 3 then (some ((⟨#[34, 35, 60, 62, 63, 94, 96, 123, 125]⟩ : ByteArray), true)) else (if a0 = 4 then (some ((⟨#[34, 35, 60, 62, 63, 94, 96, 123, 125, 47, 58, 59, 61, 64, 91, 92, 93, 124]⟩ : ByteArray), true)) else (some ((⟨#[]⟩ : ByteArray), false)))))) = some (r1, r2) := h
  clear h
  by_cases c2 : a0 = 1
  · rw [if_pos c2] at H
    have c2b0 : (a0 == 1) = true := beq_iff_eq.mpr c2
    have c2b1 : (a0 != 1) = false := bne_eq_false_iff_eq.mpr c2
    clear c2
    simp only [Option.some.injEq, Prod.mk.injEq] at H
    obtain ⟨rfl, rfl⟩ := H
    go_enter Tryz.func136, Tryz.ntmps136
    go_wp2
    go_ret2
    exact ⟨by first | rfl | (simp; done) | (simp [*]; done), by repeat (first | exact Drawn0.refl _ | apply Drawn0.step)⟩
  · rw [if_neg c2] at H
    have c2b0 : (a0 == 1) = false := beq_eq_false_iff_ne.mpr c2
    have c2b1 : (a0 != 1) = true := bne_iff_ne.mpr c2
    by_cases c3 : a0 = 2
    · rw [if_pos c3] at H
      have c3b0 : (a0 == 2) = true := beq_iff_eq.mpr c3
      have c3b1 : (a0 != 2) = false := bne_eq_false_iff_eq.mpr c3
      clear c3
      simp only [Option.some.injEq, Prod.mk.injEq] at H
      obtain ⟨rfl, rfl⟩ := H
      go_enter Tryz.func136, Tryz.ntmps136
      go_wp2
      go_ret2
      exact ⟨by first | rfl | (simp; done) | (simp [*]; done), by repeat (first | exact Drawn0.refl _ | apply Drawn0.step)⟩
    · rw [if_neg c3] at H
      have c3b0 : (a0 == 2) = false := beq_eq_false_iff_ne.mpr c3
      have c3b1 : (a0 != 2) = true := bne_iff_ne.mpr c3
      by_cases c4 : a0 = 3
      · rw [if_pos c4] at H
        have c4b0 : (a0 == 3) = true := beq_iff_eq.mpr c4
        have c4b1 : (a0 != 3) = false := bne_eq_false_iff_eq.mpr c4
        clear c4
        simp only [Option.some.injEq, Prod.mk.injEq] at H
        obtain ⟨rfl, rfl⟩ := H
        go_enter Tryz.func136, Tryz.ntmps136
        go_wp2
        go_ret2
        exact ⟨by first | rfl | (simp; done) | (simp [*]; done), by repeat (first | exact Drawn0.refl _ | apply Drawn0.step)⟩
      · rw [if_neg c4] at H
        have c4b0 : (a0 == 3) = false := beq_eq_false_iff_ne.mpr c4
        have c4b1 : (a0 != 3) = true := bne_iff_ne.mpr c4
        by_cases c5 : a0 = 4
        · rw [if_pos c5] at H
          have c5b0 : (a0 == 4) = true := beq_iff_eq.mpr c5
          have c5b1 : (a0 != 4) = false := bne_eq_false_iff_eq.mpr c5
          clear c5
          simp only [Option.some.injEq, Prod.mk.injEq] at H
          obtain ⟨rfl, rfl⟩ := H
          go_enter Tryz.func136, Tryz.ntmps136
          go_wp2
          go_ret2
          exact ⟨by first | rfl | (simp; done) | (simp [*]; done), by repeat (first | exact Drawn0.refl _ | apply Drawn0.step)⟩
        · rw [if_neg c5] at H
          have c5b0 : (a0 == 4) = false := beq_eq_false_iff_ne.mpr c5
          have c5b1 : (a0 != 4) = true := bne_iff_ne.mpr c5
          simp only [Option.some.injEq, Prod.mk.injEq] at H
          obtain ⟨rfl, rfl⟩ := H
          go_enter Tryz.func136, Tryz.ntmps136
          go_wp2
          go_ret2
          exact ⟨by first | rfl | (simp; done) | (simp [*]; done), by repeat (first | exact Drawn0.refl _ | apply Drawn0.step)⟩
end Go.Proofs.YtcmcopieagpppaaGreatDoor.P
namespace Go.Proofs.YtcmcopieagpppaaGreatDoor.P
open Go.RowKit Go.Proofs.YtcmcopieagpppaaGreatDoorW.PrintWords Go.Proofs.YtcmcopieagpppaaGreatDoorW.PrintLast Go.Proofs.YtcmcopieagpppaaGreatDoorW.PrintMore
attribute [local go_sem] max2_int min2_int max_two min_two max_three min_three max_four min_four
set_option linter.unusedVariables false
set_option linter.unusedSimpArgs false
def percent_In.f (a0 : Int) (a1 : Int) : Option (Bool) := (percent_extra.f a1).bind fun bt410 => (if bt410.2 = true then (if a0 < 33 then (some true) else (if a0 > 126 then (some true) else ((strings_IndexByte.f bt410.1 a0).bind fun t412 => (some (decide (t412 ≥ 0)))))) else (some false))
set_option maxHeartbeats 8000000 in
set_option maxRecDepth 100000 in
theorem percent_In.calls (a0 : Int) (a1 : Int) (r : Bool) (w : World) (h : percent_In.f a0 a1 = some r) :
    Calls Tryz.prog 95 #[.int .u8 a0, .int .i64 a1] w fun e w' => e = .returned (.bool r) ∧ Drawn0 w w' := by
  have H : ((percent_extra.f a1).bind fun bt410 => (if bt410.2 = true then (if a0 < 33 then (some true) else (if a0 > 126 then (some true) else ((strings_IndexByte.f bt410.1 a0).bind fun t412 => (some (decide (t412 ≥ 0)))))) else (some false))) = some r := h
  clear h
  replace H := Option.bind_eq_some_iff.mp H
  obtain ⟨⟨t410, t411⟩, A30, H⟩ := H
  replace H : (if t411 = true then (if a0 < 33 then (some true) else (if a0 > 126 then (some true) else ((strings_IndexByte.f t410 a0).bind fun t412 => (some (decide (t412 ≥ 0)))))) else (some false)) = some r := H
  have A3 := Aside0.mk A30
  clear A30
  by_cases c4 : t411 = true
  · subst c4
    have H1 : (if a0 < 33 then (some true) else (if a0 > 126 then (some true) else ((strings_IndexByte.f t410 a0).bind fun t412 => (some (decide (t412 ≥ 0)))))) = some r := by rw [if_pos rfl] at H; exact H
    clear H
    have H := H1
    clear H1
    by_cases c5 : a0 < 33
    · rw [if_pos c5] at H
      have c5b0 : decide (a0 < 33) = true := decide_eq_true c5
      clear c5
      obtain rfl := Option.some.inj H
      go_enter Tryz.func95, Tryz.ntmps95
      go_wp2_with (first | ((with_reducible refine gate_callee (f := 136) rfl ?_); refine goesL_ (some 9) rfl rfl Tryz.func136 (by kernel_rfl) rfl #[.int .i64 a1] rfl (by (try simp only [List.map_toArray, List.map_cons, List.map_nil]); first | done | rfl | (simp only [List.length_drop, List.length_take]; rfl)) ?_; (with_reducible refine (percent_extra.calls a1 t410 true _ A3.out).mono ?_); rintro e w' ⟨rfl, ⟨nd, rfl⟩⟩; refine ⟨_, rfl, ?_⟩))
      go_ret
      exact ⟨by first | rfl | (simp; done) | (simp [*]; done), by repeat (first | exact Drawn0.refl _ | apply Drawn0.step)⟩
    · rw [if_neg c5] at H
      have c5b0 : decide (a0 < 33) = false := decide_eq_false c5
      clear c5
      by_cases c6 : a0 > 126
      · rw [if_pos c6] at H
        have c6b0 : decide (126 < a0) = true := decide_eq_true c6
        clear c6
        obtain rfl := Option.some.inj H
        go_enter Tryz.func95, Tryz.ntmps95
        go_wp2_with (first | ((with_reducible refine gate_callee (f := 136) rfl ?_); refine goesL_ (some 9) rfl rfl Tryz.func136 (by kernel_rfl) rfl #[.int .i64 a1] rfl (by (try simp only [List.map_toArray, List.map_cons, List.map_nil]); first | done | rfl | (simp only [List.length_drop, List.length_take]; rfl)) ?_; (with_reducible refine (percent_extra.calls a1 t410 true _ A3.out).mono ?_); rintro e w' ⟨rfl, ⟨nd, rfl⟩⟩; refine ⟨_, rfl, ?_⟩))
        go_ret
        exact ⟨by first | rfl | (simp; done) | (simp [*]; done), by repeat (first | exact Drawn0.refl _ | apply Drawn0.step)⟩
      · rw [if_neg c6] at H
        have c6b0 : decide (126 < a0) = false := decide_eq_false c6
        clear c6
        replace H := Option.bind_eq_some_iff.mp H
        obtain ⟨t412, A70, H⟩ := H
        replace H : (some (decide (t412 ≥ 0))) = some r := H
        have A7 := Aside0.mk A70
        clear A70
        obtain rfl := Option.some.inj H
        go_enter Tryz.func95, Tryz.ntmps95
        go_wp2_with (first | ((with_reducible refine gate_callee (f := 136) rfl ?_); refine goesL_ (some 9) rfl rfl Tryz.func136 (by kernel_rfl) rfl #[.int .i64 a1] rfl (by (try simp only [List.map_toArray, List.map_cons, List.map_nil]); first | done | rfl | (simp only [List.length_drop, List.length_take]; rfl)) ?_; (with_reducible refine (percent_extra.calls a1 t410 true _ A3.out).mono ?_); rintro e w' ⟨rfl, ⟨nd, rfl⟩⟩; refine ⟨_, rfl, ?_⟩) | (go_at_call 89; (with_reducible refine (strings_IndexByte.calls t410 a0 t412 _ A7.out).mono ?_); rintro e w' ⟨rfl, ⟨nd, rfl⟩⟩))
        go_ret
        exact ⟨by first | rfl | (simp; done) | (simp [*]; done), by repeat (first | exact Drawn0.refl _ | apply Drawn0.step)⟩
  · replace c4 := Bool.eq_false_iff.mpr c4
    subst c4
    have H1 : (some false) = some r := by rw [if_neg (show ¬ (false = true) by decide)] at H; exact H
    clear H
    have H := H1
    clear H1
    obtain rfl := Option.some.inj H
    go_enter Tryz.func95, Tryz.ntmps95
    go_wp2_with (first | ((with_reducible refine gate_callee (f := 136) rfl ?_); refine goesL_ (some 9) rfl rfl Tryz.func136 (by kernel_rfl) rfl #[.int .i64 a1] rfl (by (try simp only [List.map_toArray, List.map_cons, List.map_nil]); first | done | rfl | (simp only [List.length_drop, List.length_take]; rfl)) ?_; (with_reducible refine (percent_extra.calls a1 t410 false _ A3.out).mono ?_); rintro e w' ⟨rfl, ⟨nd, rfl⟩⟩; refine ⟨_, rfl, ?_⟩))
    go_ret
    exact ⟨by first | rfl | (simp; done) | (simp [*]; done), by repeat (first | exact Drawn0.refl _ | apply Drawn0.step)⟩
end Go.Proofs.YtcmcopieagpppaaGreatDoor.P
