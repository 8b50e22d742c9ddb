/-
  Chunked bodies in plain words: one round of the encoder. Rows that a call owns: kept by what leaves old memory alone; one element more. Lemmas of no program. strings.Builder.WriteString at this seat: the laying by hand (the library's contract, one application), in this project's words. Tests on whole numbers as the walk spells them. Lemmas of no program. The contract of waypostkit.Mod. Words on lists of texts in memory: the address written out, an element read. Lemmas of no program. Lists of ints: reading one, waypostkit.At, OwnInts, SameInts. The reference of chunked bodies: hex. chunked.Encode. The reference of chunked bodies: Encode. The contracts of waypostkit on lists of texts: SameTexts. Chunked bodies in plain words: zeros before sizes, digits in the other case, trailer lines; the chapter's examples. Chunked bodies in plain words: the chapter's examples.
-/
import Derived.Test.YtkbihipgnlglbaaGreatDoorCh1
import Derived.Test.YtkbihipgnlglbaaGreatDoorRf
import Derived.Test.YtkbihipgnlglbaaGreatDoorBase
import Derived.Test.YtkbihipgnlglbaaGreatDoorTk5
import Derived.Shelf.Strings.Builder2
import Derived.WalkKit
import Derived.Test.YtkbihipgnlglbaaGreatDoorProg
import Derived.Outline
import Derived.Test.YtkbihipgnlglbaaGreatDoorLst
import Derived.Lib.Join
import Derived.LoopTactic
import Derived.BigQuiet
import Derived.Test.YtkbihipgnlglbaaGreatDoorFnW
import Derived.Test.YtkbihipgnlglbaaGreatDoorMc3
import Derived.Deep.RegionHeld3
import Derived.Deep.QuietTactic
namespace Go.Proofs.YtkbihipgnlglbaaGreatDoor

section
open Go.RowKit

def pieceT (rest : List UInt8) (n : Nat) : List UInt8 := hexDigits n ++ [13, 10] ++ rest.take n ++ [13, 10]
/-- how far an encoder has come: the bytes that are written, and those that are left -/
structure EncAt (body : List UInt8) (ks : List Nat) (i : Nat) (done rest : List UInt8) : Prop where
  eq : ∃ M, encT body.length body ks = done ++ encT M rest (ks.drop i) ∧ rest.length ≤ M
  len : done.length + 8 * rest.length ≤ 8 * body.length
  small : rest.length ≤ body.length
theorem EncAt.start (body : List UInt8) (ks : List Nat) : EncAt body ks 0 [] body := ⟨⟨body.length, rfl, Nat.le_refl _⟩, by simp, Nat.le_refl _⟩
theorem nextT_at (rest : List UInt8) (ks : List Nat) (i : Nat) : nextT rest (ks.drop i) = if h : i < ks.length then min rest.length ks[i] else rest.length := by
  by_cases h : i < ks.length
  · rw [dif_pos h, List.drop_eq_getElem_cons h]; rfl
  · rw [dif_neg h, List.drop_eq_nil_of_le (by omega)]; rfl
theorem nextT_pos {rest : List UInt8} {ks : List Nat} (hk : ∀ k ∈ ks, 1 ≤ k) (hne : rest ≠ []) (i : Nat) : 1 ≤ nextT rest (ks.drop i) ∧ nextT rest (ks.drop i) ≤ rest.length := by
  have hp : 1 ≤ rest.length := List.length_pos_iff.2 hne
  rw [nextT_at]
  split
  · rename_i h
    have := hk ks[i] (List.getElem_mem h)
    omega
  · omega
theorem EncAt.step {body : List UInt8} {ks : List Nat} {i : Nat} {done rest : List UInt8} (h : EncAt body ks i done rest) (hb : body.length ≤ 2048) (hk : ∀ k ∈ ks, 1 ≤ k) (hne : rest ≠ []) : EncAt body ks (i + 1) (done ++ pieceT rest (nextT rest (ks.drop i))) (rest.drop (nextT rest (ks.drop i))) := by
  obtain ⟨⟨M, hM, hl⟩, hlen, hsm⟩ := h
  obtain ⟨hn1, hn2⟩ := nextT_pos hk hne i
  have hd := hexDigits_len (nextT rest (ks.drop i)) (by omega)
  cases M with
  | zero => exact absurd (List.eq_nil_of_length_eq_zero (Nat.le_zero.1 hl)) hne
  | succ M =>
    refine ⟨⟨M, ?_, by rw [List.length_drop]; omega⟩, ?_, by rw [List.length_drop]; omega⟩
    · rw [hM]
      rw [show encT (M + 1) rest (ks.drop i) = hexDigits (nextT rest (ks.drop i)) ++ [13, 10] ++ rest.take (nextT rest (ks.drop i)) ++ [13, 10] ++ encT M (rest.drop (nextT rest (ks.drop i))) (ks.drop i).tail by rw [encT, if_neg hne], List.tail_drop]
      simp [pieceT]
    · simp only [List.length_append, pieceT, List.length_drop, List.length_take, List.length_cons, List.length_nil]
      omega
theorem EncAt.fin {body : List UInt8} {ks : List Nat} {i : Nat} {done : List UInt8} (h : EncAt body ks i done []) : encodeT body ks = done ++ [48, 13, 10, 13, 10] := by
  obtain ⟨⟨M, hM, _⟩, _⟩ := h
  unfold encodeT
  rw [hM]
  cases M <;> simp [encT]
theorem EncAt.bound {body : List UInt8} {ks : List Nat} {i : Nat} {done rest : List UInt8} (h : EncAt body ks i done rest) (hb : body.length ≤ 2048) : done.length ≤ 16384 := by
  have := h.len; omega
end

section
open Go.RowKit

theorem own_below {base e size n : Nat} {W W' : World} {v : Value} {xs : List Value} (ho : W.ownsRow base e size v n xs) (hb : Below W.heap.size W W') : W'.ownsRow base e size v n xs := by
  refine ho.kept (only_of_below hb none) ?_
  rcases ho.2 with ⟨rfl, _⟩ | ⟨g, cap, cur, rfl, _⟩
  · exact .inl rfl
  · exact .inr (by simp [Value.ownBlock])
theorem own_drewN {base e size n : Nat} {W : World} {v : Value} {xs : List Value} (ho : W.ownsRow base e size v n xs) (k : Nat) : (W.drewN k).ownsRow base e size v n xs := own_below ho (below_drewN (Below.refl _ _) k)
end

section
open Go.RowKit


def layW_ren : Go.Shelf.Ren := ⟨fun | 166 => 27 | 240 => 40 | 276 => 51 | n => n, fun | 0 => 0 | 3 => 3 | 4 => 4 | 9 => 9 | 20 => 20 | 37 => 42 | 70 => 52 | 72 => 54 | 75 => 56 | 164 => 81 | 5 => 5 | 80 => 60 | n => n, fun | n => n⟩
theorem layW : Go.Proofs.Lays.n166 Tryz.prog layW_ren := {
  mixed := by kernel_rfl
  f166 := Tryz.func27.trans (congrArg some (by kernel_rfl))
  f240 := Tryz.func40.trans (congrArg some (by kernel_rfl))
  f276 := Tryz.func51.trans (congrArg some (by kernel_rfl))
  t0 := Tryz.underlying0
  a0 := Tryz.isAgg0
  z0 := Tryz.sizeOf0
  v0 := Tryz.zeroValue0
  t3 := Tryz.underlying3
  a3 := Tryz.isAgg3
  z3 := Tryz.sizeOf3
  v3 := Tryz.zeroValue3
  t4 := Tryz.underlying4
  a4 := Tryz.isAgg4
  z4 := Tryz.sizeOf4
  v4 := Tryz.zeroValue4
  t9 := Tryz.underlying9
  a9 := Tryz.isAgg9
  z9 := Tryz.sizeOf9
  v9 := Tryz.zeroValue9
  t20 := Tryz.underlying20
  a20 := Tryz.isAgg20
  z20 := Tryz.sizeOf20
  v20 := Tryz.zeroValue20
  t37 := Tryz.underlying42
  a37 := Tryz.isAgg42
  z37 := Tryz.sizeOf42
  v37 := Tryz.zeroValue42
  t70 := Tryz.underlying52
  a70 := Tryz.isAgg52
  z70 := Tryz.sizeOf52
  v70 := Tryz.zeroValue52
  t72 := Tryz.underlying54
  a72 := Tryz.isAgg54
  z72 := Tryz.sizeOf54
  v72 := Tryz.zeroValue54
  t75 := Tryz.underlying56
  a75 := Tryz.isAgg56
  z75 := Tryz.sizeOf56
  v75 := Tryz.zeroValue56
  t164 := Tryz.underlying81
  a164 := Tryz.isAgg81
  z164 := Tryz.sizeOf81
  v164 := Tryz.zeroValue81 }
theorem layW_extra : Builder.Extra Tryz.prog layW_ren := {
  sizeBuilder := by kernel_rfl
  liesBuilder := by kernel_rfl
  t5 := Tryz.underlying5
  a5 := Tryz.isAgg5
  z5 := Tryz.sizeOf5
  v5 := Tryz.zeroValue5
  infoByte := by kernel_rfl
  cellsByte := by kernel_rfl
  sizeByte := by kernel_rfl
  neB5 := by decide }
theorem builderAt_below {T e : TypeId} {B b : Nat} {p : Value} {cs : List Value} {W W' : World} (h : Lib.BuilderAt T e B b p cs W) (hb : Below W.heap.size W W') : Lib.BuilderAt T e B b p cs W' := by
  obtain ⟨h1, v, h2, h3, h4⟩ := h
  have hlt : b < W.heap.size := by
    rcases Nat.lt_or_ge b W.heap.size with h' | h'
    · exact h'
    · simp [Array.getElem?_eq_none h'] at h2
  exact ⟨h1, v, (hb.block b hlt).trans h2, own_below h3 hb, h4⟩
theorem builder_below {T e : TypeId} {B b : Nat} {cs : List Value} {W W' : World} (h : Lib.IsBuilder T e B b cs W) (hb : Below W.heap.size W W') : Lib.IsBuilder T e B b cs W' :=
  h.elim (fun x => .inl (builderAt_below x hb)) (fun x => .inr (builderAt_below x hb))
theorem WriteString_any (B b : Nat) (l : List UInt8) (s : ByteArray) (w : World) (h : Lib.IsBuilder 54 5 B b (Lib.byteCells l) w) (hlen : l.length + s.size ≤ 1000000) (hBw : B ≤ w.heap.size) :
    Calls Tryz.prog 27 #[.pointer (some ⟨b, 0, none⟩), .string s] w fun e w' => e = .returned (.tuple #[.int .i64 s.size, .nilIface]) ∧ Lib.IsBuilder 54 5 B b (Lib.byteCells (l ++ s.data.toList)) w' ∧ Below B w w' :=
  (Any.Builder_WriteString layW layW_extra B b (Lib.byteCells l) s w h (by simp [Lib.byteCells]; omega) hBw).mono fun e w' ⟨he, h1, h2⟩ => ⟨he, .inr (by
    have e1 : Lib.byteCells (l ++ s.data.toList) = Lib.byteCells l ++ Lib.strCells s := by simp [Lib.byteCells, Lib.strCells]
    rw [e1]; exact h1), h2⟩
end

section
theorem beqT {a b : Int} (h : a = b) : (a == b) = true := beq_iff_eq.2 h
theorem beqF {a b : Int} (h : a ≠ b) : (a == b) = false := beq_eq_false_iff_ne.2 h
theorem bneT {a b : Int} (h : a ≠ b) : (a != b) = true := bne_iff_ne.2 h
theorem bneF {a b : Int} (h : a = b) : (a != b) = false := by simp [h]
end

section
open Go.RowKit

/-- what Mod returns lies from 0 to m - 1 -/
def ModPost (m : Int) (w : World) (e : Ending) (w' : World) : Prop := ∃ r : Int, 0 ≤ r ∧ r < m ∧ e = .returned (.int .i64 r) ∧ w = w'
theorem Mod_any (n m : Int) (w : World) (hn1 : -9223372036854775808 ≤ n) (hn2 : n ≤ 9223372036854775807) (hm : 1 ≤ m) (hm2 : m ≤ 1099511627776) :
    Calls Tryz.prog 20 #[.int .i64 n, .int .i64 m] w (ModPost m w) := by
  have d1 : decide (m < 1) = false := by simp; omega
  have u1 := Int.tmod_lt_of_pos n (show 0 < m by omega)
  have u2 := Int.lt_tmod_of_pos n (show 0 < m by omega)
  by_cases hp : 0 ≤ n
  · have hr := Int.emod_nonneg n (show m ≠ 0 by omega)
    have hr2 := Int.emod_lt_of_pos n (show 0 < m by omega)
    have d2 : decide (n % m < 0) = false := by simp; omega
    clear u1 u2
    go_enter Tryz.func20, Tryz.ntmps20
    go_wp2_with fail
    go_ret
    exact ⟨n % m, hr, hr2, rfl, rfl⟩
  · have hneg : n < 0 := by omega
    by_cases h0 : n.tmod m < 0
    · have d2 : decide (n.tmod m < 0) = true := by simpa using h0
      go_enter Tryz.func20, Tryz.ntmps20
      go_wp2_with fail
      go_ret
      exact ⟨n.tmod m + m, by omega, by omega, rfl, rfl⟩
    · have d2 : decide (n.tmod m < 0) = false := by simpa using h0
      go_enter Tryz.func20, Tryz.ntmps20
      go_wp2_with fail
      go_ret
      exact ⟨n.tmod m, by omega, by omega, rfl, rfl⟩
end

section
open Go.RowKit

theorem Reads.lit {w : World} {B n : Nat} {A : Option Addr} {xs : List Value} (h : Reads w B 1 A n xs) (hn : 0 < n) : ∃ b o, A = some ⟨b, o, none⟩ ∧ b < B ∧ ∀ j u, xs[j]? = some u → w.cell? ⟨b, o + j, none⟩ = some u := by
  obtain ⟨ad, e, hb, hc⟩ := h.2 hn
  obtain ⟨b, o, s⟩ := ad
  have hl : 0 < xs.length := by have := h.1; omega
  have h0 := hc 0 _ (List.getElem?_eq_getElem hl)
  have hs : s = none := by
    cases s with
    | none => rfl
    | some k =>
      simp only [Addr.add, if_true] at h0
      unfold World.cell? at h0
      simp only [Option.isSome_some, if_true] at h0
      split at h0 <;> simp at h0
  subst hs
  refine ⟨b, o, e, hb, fun j u hu => ?_⟩
  have := hc j u hu
  rwa [Addr.add_lit] at this
/-- an element of a list of texts -/
theorem Reads.text {w : World} {B n : Nat} {A : Option Addr} {xs : List (List UInt8)} (h : Reads w B 1 A n (strs xs)) (k : Nat) (hk : k < xs.length) : ∃ b o, A = some ⟨b, o, none⟩ ∧ b < B ∧ w.cell? ⟨b, o + k, none⟩ = some (.string (bs xs[k])) := by
  have hl := h.1
  rw [strs_len] at hl
  obtain ⟨b, o, e, hb, hc⟩ := h.lit (by omega)
  exact ⟨b, o, e, hb, hc k _ (strs_at xs k hk)⟩
theorem Reads.len {w : World} {B n : Nat} {A : Option Addr} {xs : List (List UInt8)} (h : Reads w B 1 A n (strs xs)) : n = xs.length := by
  have := h.1; rw [strs_len] at this; omega

def sep2 : List UInt8 := [44, 32]
def joinL (xs : List (List UInt8)) : List UInt8 := Lib.join xs sep2
theorem joinL_nil : joinL [] = [] := rfl
theorem joinL_succ (xs : List (List UInt8)) (k : Nat) (h : k < xs.length) : joinL (xs.take (k + 1)) = if k = 0 then xs[k] else joinL (xs.take k) ++ sep2 ++ xs[k] := by
  cases xs with
  | nil => simp at h
  | cons x r =>
    cases k with
    | zero => simp [joinL, Lib.join_one]
    | succ k =>
      have hk : k < r.length := by simpa using h
      rw [if_neg (by omega), List.take_succ_cons, List.take_succ_cons]
      unfold joinL
      rw [Lib.join_cons, Lib.join_cons, Lib.joinTail_take_succ sep2 r k r[k] (List.getElem?_eq_getElem hk)]
      simp
theorem joinL_take_le (xs : List (List UInt8)) (k : Nat) : (joinL (xs.take k)).length ≤ (joinL xs).length := by
  cases xs with
  | nil => simp [joinL]
  | cons x r =>
    cases k with
    | zero => simp [joinL, Lib.join_nil]
    | succ k =>
      rw [List.take_succ_cons]
      unfold joinL
      rw [Lib.join_cons, Lib.join_cons, List.length_append, List.length_append]
      have := Lib.joinTail_take_le sep2 r k
      omega
/-- a list written, or the error -/
def joinT (xs : List (List UInt8)) : List UInt8 × Nat := if xs.all isTok then (joinL xs, 0) else ([], 3)
/-- has a list a token, or the error -/
def holdsT (l t : List UInt8) : Bool × Nat := if (listT l).2 ≠ 0 then (false, (listT l).2) else if isTok t = false then (false, 3) else ((listT l).1.contains (lowL t), 0)
end

section
open Go.RowKit

theorem Reads.zint {w : World} {B n : Nat} {A : Option Addr} {zs : List Int} (h : Reads w B 1 A n (zs.map (Value.int .i64))) (k : Nat) (hk : k < zs.length) : ∃ b o, A = some ⟨b, o, none⟩ ∧ b < B ∧ w.cell? ⟨b, o + k, none⟩ = some (.int .i64 zs[k]) := by
  have hl := h.1
  rw [List.length_map] at hl
  obtain ⟨b, o, e, hb, hc⟩ := h.lit (by omega)
  exact ⟨b, o, e, hb, hc k _ (by rw [List.getElem?_map, List.getElem?_eq_getElem hk]; rfl)⟩
theorem Reads.zlen {w : World} {B n : Nat} {A : Option Addr} {zs : List Int} (h : Reads w B 1 A n (zs.map (Value.int .i64))) : zs.length = n := by
  have hl := h.1
  rw [List.length_map] at hl
  omega
set_option maxRecDepth 100000 in
set_option maxHeartbeats 4000000 in
theorem SameInts_z (A B : Option Addr) (n c d : Nat) (xs : List Int) (w : World) (hr : Reads w w.heap.size 1 A n (xs.map (Value.int .i64))) (ht : Reads w w.heap.size 1 B n (xs.map (Value.int .i64))) (hn : n ≤ 1000000) :
    Calls Tryz.prog 14 #[.slice A n c, .slice B n d] w fun e w' => e = .returned (.bool true) ∧ Below w.heap.size w w' := by
  obtain rfl := hr.zlen
  have hd : ((xs.length : Int) != (xs.length : Int)) = false := by simp
  have HX := Lib.hid hr
  have HY := Lib.hid ht
  clear hr ht
  go_enter Tryz.func14, Tryz.ntmps14
  go_wp2_with fail
  go_loopw [5] (fun i wr => ∃ k j : Nat, i = .int .i64 k ∧ k ≤ xs.length ∧ wr = w.drewN j) (fun i _ => xs.length - (intOf i).toNat)
  case atStart => exact ⟨0, 0, rfl, by omega, rfl⟩
  case round =>
    obtain ⟨k, j, rfl, hk, rfl⟩ := hrel
    by_cases hlt : k < xs.length
    · obtain ⟨b, o, rfl, _, c1⟩ := HX.out.zint k hlt
      obtain ⟨b', o', rfl, _, c2⟩ := HY.out.zint k hlt
      obtain ⟨x, hx⟩ : ∃ x, xs[k] = x := ⟨_, rfl⟩
      rw [hx] at c1 c2
      have i0 : (0 : Int) ≤ (k : Int) := by omega
      have i1 : (k : Int) < (xs.length : Int) := by omega
      have hq : (x != x) = false := by simp
      clear hx hd
      go_wp2_with fail
      go_quiet (fail)
      go_wp2_with fail
      exact ⟨⟨k + 1, _, by go_num, by omega, rfl⟩, by simp [intOf]; omega⟩
    · have hkl : k = xs.length := by omega
      subst hkl
      have hd : decide ((xs.length : Int) < (xs.length : Int)) = false := by simp
      go_wp2_with fail
      go_ret
      exact ⟨rfl, rfl, rfl, rfl, Nat.le_refl _, fun _ _ => rfl⟩
set_option maxHeartbeats 4000000 in
theorem At_any (A : Option Addr) (n c : Nat) (zs : List Int) (i : Nat) (w : World) (hr : Reads w w.heap.size 1 A n (zs.map (Value.int .i64))) (hn : n ≤ 9223372036854775807) :
    Calls Tryz.prog 32 #[.slice A n c, .int .i64 (i : Int)] w fun e w' => e = .returned (.int .i64 (zs.getD i 0)) ∧ Below w.heap.size w w' := by
  obtain rfl := hr.zlen
  by_cases h : i < zs.length
  · obtain ⟨b, o, rfl, _, c1⟩ := hr.zint i h
    have e1 : zs.getD i 0 = zs[i] := by rw [List.getD_eq_getElem?_getD, List.getElem?_eq_getElem h]; rfl
    rw [e1]
    generalize zs[i] = x at *
    have i1 : decide ((zs.length : Int) ≤ (i : Int)) = false := by simp; omega
    have i2 : decide ((i : Int) < 0) = false := by simp
    clear hr e1
    go_enter Tryz.func32, Tryz.ntmps32
    go_wp2_with fail
    go_ret
    exact ⟨rfl, Below.refl _ _⟩
  · have e1 : zs.getD i 0 = 0 := by rw [List.getD_eq_getElem?_getD, List.getElem?_eq_none (by omega)]; rfl
    rw [e1]
    have i1 : decide ((zs.length : Int) ≤ (i : Int)) = true := by simp; omega
    have i2 : decide ((i : Int) < 0) = false := by simp
    go_enter Tryz.func32, Tryz.ntmps32
    go_wp2_with fail
    go_ret
    exact ⟨rfl, Below.refl _ _⟩
theorem info_i64 : (Tryz.prog.info? 3).map (fun i => (i.zero, i.size, i.bytes)) = some (some (.int .i64 0), 1, 8) := by kernel_rfl
theorem zs_one (zs : List Int) : ∀ u ∈ zs.map (Value.int .i64), u.oneCell' = true := by
  intro u hu
  obtain ⟨z, _, rfl⟩ := List.mem_map.1 hu
  rfl
set_option maxHeartbeats 4000000 in
theorem OwnInts_z (A : Option Addr) (n c : Nat) (zs : List Int) (w : World) (hr : Reads w w.heap.size 1 A n (zs.map (Value.int .i64))) (hn : n ≤ 1000000) :
    Calls Tryz.prog 11 #[.slice A n c] w fun e w' => ∃ B d, e = .returned (.slice B n d) ∧ Reads w' w'.heap.size 1 B n (zs.map (Value.int .i64)) ∧ Below w.heap.size w w' := by
  obtain ⟨i0, hi, hz0, hz1, hz2⟩ := info_parts info_i64
  have hown := World.ownsRow_made (base := w.heap.size) (e := 3) (size := 1) w #[] 0 (Nat.le_refl _) (Nat.zero_le _) rfl
  have hr2 := hr.alloc (Nat.le_refl _) (.cells #[] 3)
  have HO := Lib.hid hown
  have HR := Lib.hid hr2
  have HI := Lib.hid (And.intro hi (And.intro hz0 (And.intro hz1 hz2)))
  clear hi hz0 hz1 hz2 hown hr2
  obtain ⟨i1, i2, i3, i4⟩ := HI.out
  have hb1 : (0 + n) ≤ maxLen := by unfold maxLen; omega
  have hb2 : (0 + n) * 8 ≤ 140737488355328 := by omega
  have hrun := run_append_any (P := Tryz.prog) (w.alloc (.cells #[] 3)) w.heap.size 26 26 3 i0 (.int .i64 0) 1 8 Tryz.underlying26 i1 i2 i3 i4 rfl (by decide) _ 0 [] HO.out w.heap.size A n c (zs.map (Value.int .i64)) HR.out (zs_one zs) hb1 hb2 (by simp)
  obtain ⟨v', w', hrun, ho, hg, hor⟩ := hrun
  rw [List.nil_append, Nat.zero_add] at ho
  obtain ⟨B, d, rfl⟩ := own_slice ho
  have HRUN := Lib.hid hrun
  have HF := Lib.hid (And.intro ho hg)
  clear hrun ho hg hor i1 i2 i3 i4 hb1 hb2 hr
  go_enter Tryz.func11, Tryz.ntmps11
  go_wp2_with (at_builtin; refine wpList_append_run HRUN.out rfl _ _ rfl rfl rfl rfl ?_)
  go_ret
  refine ⟨B, d, rfl, Reads.of_own HF.out.1, ?_⟩
  exact ((Below.refl _ w).alloc (Nat.le_refl _) _).grown HF.out.2 (by simp) (own_ge HO.out)
end

section
open Go.RowKit

def hx0 (x : Nat) : List UInt8 := if x = 0 then [] else hexDigits x
theorem hx0_step (x : Nat) (h : 0 < x) : hx0 x = hx0 (x / 16) ++ [hxd (x % 16)] := by
  unfold hx0
  rw [if_neg (by omega)]
  by_cases h16 : x < 16
  · rw [hexDigits_small h16, if_pos (by omega), Nat.mod_eq_of_lt h16]; rfl
  · rw [hexDigits_big h16, if_neg (by omega)]
theorem idx_hex : ∀ p : Fin 16, (⟨#[48, 49, 50, 51, 52, 53, 54, 55, 56, 57, 97, 98, 99, 100, 101, 102]⟩ : ByteArray)[p.val]'(by have := p.isLt; show p.val < 16; exact this) = hxd p.val := by decide +kernel
set_option maxRecDepth 100000 in
set_option maxHeartbeats 8000000 in
theorem rHex (n : Nat) (hn : n ≤ 2048) (w : World) : Calls Tryz.prog 31 #[.int .i64 (n : Int)] w fun e w' => e = .returned (.string (bs (hx0 n))) ∧ Below w.heap.size w w' := by
  go_enter Tryz.func31, Tryz.ntmps31
  go_wp2_with fail
  go_loopw [0, 3] (fun a b wr => ∃ (x : Nat) (D : List UInt8), a = .int .i64 x ∧ b = .string (bs D) ∧ x ≤ n ∧ Hid (hx0 n = hx0 x ++ D) ∧ D.length + x ≤ 2048 + 1 ∧ Below w.heap.size w wr) (fun a _ _ => (intOf a).toNat)
  case atStart => exact ⟨n, [], rfl, rfl, by omega, hide (by simp), by simp; omega, Below.refl _ _⟩
  case round =>
    obtain ⟨x, D, rfl, rfl, hx, hD, hl, hb⟩ := hrel
    by_cases h0 : 0 < x
    · have e1 : decide ((0 : Int) < (x : Int)) = true := by simp; omega
      have hlt : x % 16 < (⟨#[48, 49, 50, 51, 52, 53, 54, 55, 56, 57, 97, 98, 99, 100, 101, 102]⟩ : ByteArray).size := Nat.mod_lt _ (by omega)
      obtain ⟨y, hy⟩ : ∃ y : UInt8, (⟨#[48, 49, 50, 51, 52, 53, 54, 55, 56, 57, 97, 98, 99, 100, 101, 102]⟩ : ByteArray)[x % 16] = y := ⟨_, rfl⟩
      have hyx : hxd (x % 16) = y := (idx_hex ⟨x % 16, Nat.mod_lt _ (by omega)⟩).symm.trans hy
      have hst := hx0_step x h0
      rw [hyx] at hst
      have hcv : ∀ (q : World) (b cap : Nat), q.cell? ⟨b, 0, none⟩ = some (.int .u8 (y.toNat : Int)) → (convert 42 9 (.slice (some ⟨b, 0, none⟩) 1 cap)).run Tryz.prog q = .ok (.string (bs [y])) q := fun q b cap hq => by
        exact run_convert_bytes_back (P := Tryz.prog) q 42 9 5 ⟨b, 0, none⟩ cap [y] Tryz.underlying42 Tryz.underlying5 Tryz.underlying9 (fun j hj => by
          have : j = 0 := by simpa using hj
          subst this
          rw [show (⟨b, 0, none⟩ : Addr).add 0 = ⟨b, 0, none⟩ from rfl, hq]
          simp)
      have hcv := hcv (wr.alloc (.cells #[.int .u8 (y.toNat : Int)] 5)) wr.heap.size 1 (by rw [World.cell?_alloc_new]; rfl)
      have z1 : (bs [y]).size = 1 := rfl
      have z2 : (bs D).size = D.length := bs_size D
      have s3 : ¬ 9223372036854775807 < (bs [y]).size + (bs D).size := by omega
      have e2 : bs [y] ++ bs D = bs (y :: D) := by
        apply ba_ext
        show (bs [y] ++ bs D : ByteArray).data.toList = y :: D
        rw [ByteArray.data_append, Array.toList_append]; rfl
      have HS := Lib.hid hst
      have HB := Lib.hid hb
      clear hst hb hyx
      go_wp2_with fail
      go_roundw
      case rel =>
        refine ⟨x / 16, y :: D, by go_num, ?_, by omega, hide ?_, by simp; omega, HB.out.alloc HB.out.size _⟩
        · rfl
        · rw [hD.out, HS.out]; simp
      case measure => simp [intOf]; omega
    · obtain rfl : x = 0 := by omega
      go_wp2_with fail
      go_ret
      refine ⟨?_, hb⟩
      rw [hD.out]
      simp [hx0]
end

section
open Go.RowKit

def goodZ (zs : List Int) : Prop := ∀ z ∈ zs, 1 ≤ z ∧ z ≤ 2048
instance (zs : List Int) : Decidable (goodZ zs) := by unfold goodZ; exact inferInstance
def encOut (body : List UInt8) (zs : List Int) : List UInt8 × Nat := if 2048 < body.length then ([], 4) else if goodZ zs then (encodeT body (zs.map Int.toNat), 0) else ([], 2)
def strOf : Value → Nat
  | .string s => s.size
  | _ => 0
theorem goodZ_ks {zs : List Int} (h : goodZ zs) : ∀ k ∈ zs.map Int.toNat, 1 ≤ k := by
  intro k hk
  obtain ⟨z, hz, rfl⟩ := List.mem_map.1 hk
  have := h z hz
  omega
theorem nextT_z {rest : List UInt8} {zs : List Int} (h : goodZ zs) (i : Nat) : (nextT rest ((zs.map Int.toNat).drop i) : Int) = if h : i < zs.length then min (rest.length : Int) zs[i] else rest.length := by
  rw [nextT_at]
  by_cases hi : i < zs.length
  · rw [dif_pos (by simpa using hi), dif_pos hi]
    have := h zs[i] (List.getElem_mem hi)
    simp only [List.getElem_map]
    omega
  · rw [dif_neg (by simpa using hi), dif_neg hi]
theorem bs_take (l : List UInt8) (n : Nat) : (bs l).extract 0 n = bs (l.take n) := by
  apply ba_ext
  show ((bs l).extract 0 n).data.toList = l.take n
  rw [ByteArray.data_extract, Array.toList_extract]
  simp [bs]
theorem bs_drop (l : List UInt8) (n : Nat) : (bs l).extract n (bs l).size = bs (l.drop n) := by
  apply ba_ext
  show ((bs l).extract n (bs l).size).data.toList = l.drop n
  rw [ByteArray.data_extract, Array.toList_extract, bs_size]
  simp [bs]
  rw [List.take_of_length_le (by simp)]
theorem bs_app (l m : List UInt8) : bs l ++ bs m = bs (l ++ m) := by
  apply ba_ext
  show (bs l ++ bs m : ByteArray).data.toList = l ++ m
  rw [ByteArray.data_append, Array.toList_append]; rfl
set_option maxRecDepth 100000 in
set_option maxHeartbeats 16000000 in
theorem pEncode (body : List UInt8) (A : Option Addr) (n c : Nat) (zs : List Int) (w : World) (hr : Reads w w.heap.size 1 A n (zs.map (Value.int .i64))) (hn : n ≤ 1000000) (hb : body.length ≤ 1000000) (ht : Tabs w) :
    Calls Tryz.prog 12 #[.string (bs body), .slice A n c] w fun e w' => e = .returned (.tuple #[.string (bs (encOut body zs).1), .int .i64 (encOut body zs).2]) ∧ Below w.heap.size w w' := by
  obtain rfl := hr.zlen
  have hbz : (bs body).size = body.length := bs_size body
  by_cases hbig : 2048 < body.length
  · have eO : encOut body zs = ([], 4) := by unfold encOut; rw [if_pos hbig]
    rw [eO]
    have e1 : decide ((2048 : Int) < ((bs body).size : Int)) = true := by simp; omega
    go_enter Tryz.func12, Tryz.ntmps12
    go_wp2_with fail
    go_ret2
    exact ⟨rfl, Below.refl _ _⟩
  · have e1 : decide ((2048 : Int) < ((bs body).size : Int)) = false := by simp; omega
    have HR := Lib.hid hr
    have HT := Lib.hid ht
    clear hr ht
    go_enter Tryz.func12, Tryz.ntmps12
    go_wp2_with fail
    go_loopw [16] (fun i wr => ∃ k : Nat, i = .int .i64 k ∧ k ≤ zs.length ∧ Hid (goodZ (zs.take k)) ∧ wr = w) (fun i _ => zs.length - (intOf i).toNat)
    case atStart => exact ⟨0, rfl, by omega, hide (by intro z hz; simp at hz), rfl⟩
    case round =>
      obtain ⟨k, rfl, hk, hg, rfl⟩ := hrel
      by_cases hlt : k < zs.length
      · obtain ⟨b, o, rfl, _, c1⟩ := HR.out.zint k hlt
        obtain ⟨x, hx⟩ : ∃ x, zs[k] = x := ⟨_, rfl⟩
        rw [hx] at c1
        by_cases hx2 : 1 ≤ x ∧ x ≤ 2048
        · have hG : goodZ (zs.take (k + 1)) := by
            intro z hz
            rw [List.take_succ_eq_append_getElem hlt, hx] at hz
            rcases List.mem_append.1 hz with h | h
            · exact hg.out z h
            · rw [List.mem_singleton.1 h]; exact hx2
          have HG := Lib.hid hG
          obtain ⟨x1, x2⟩ := hx2
          have d1 : decide (x < 1) = false := by simp; omega
          have d2 : decide (2048 < x) = false := by simp; omega
          clear hG hx
          go_wp2_with fail
          go_roundw
          case rel => exact ⟨k + 1, by go_num, by omega, HG, trivial⟩
          case measure => simp [intOf]; omega
        · have hB : ¬ goodZ zs := fun h => hx2 (by have := h zs[k] (List.getElem_mem hlt); rw [hx] at this; exact this)
          have eO : encOut body zs = ([], 2) := by unfold encOut; rw [if_neg hbig, if_neg hB]
          have HO := Lib.hid eO
          by_cases hx1 : x < 1
          · have d1 : decide (x < 1) = true := by simp; omega
            clear hx2 hx hB eO
            go_wp2_with fail
            go_ret2
            rw [HO.out]
            exact ⟨rfl, Below.refl _ _⟩
          · have d1 : decide (x < 1) = false := by simp; omega
            have d2 : decide (2048 < x) = true := by simp; omega
            clear hx2 hx hB eO
            go_wp2_with fail
            go_ret2
            rw [HO.out]
            exact ⟨rfl, Below.refl _ _⟩
      · obtain rfl : k = zs.length := by omega
        have hd : decide ((zs.length : Int) < (zs.length : Int)) = false := by simp
        have hG := hg.out
        rw [List.take_length] at hG
        have eO : encOut body zs = (encodeT body (zs.map Int.toNat), 0) := by unfold encOut; rw [if_neg hbig, if_pos hG]
        have HO := Lib.hid eO
        have HG := Lib.hid hG
        have HK := Lib.hid (goodZ_ks hG)
        clear eO hG hg
        have hI : Lib.IsBuilder 54 5 wr.heap.size wr.heap.size (Lib.byteCells []) (wr.alloc (.cells #[.pointer none, .slice none 0 0] 54)) :=
          .inl ⟨Nat.le_refl _, .slice none 0 0, heap_alloc_new wr _, World.ownsRow_nil _ _ _ _, by simp [Value.ownBlock]⟩
        have HI := Lib.hid hI
        have hb2 : Below wr.heap.size wr (wr.alloc (.cells #[.pointer none, .slice none 0 0] 54)) := (Below.refl _ _).alloc (Nat.le_refl _) _
        have HB2 := Lib.hid hb2
        clear hI hb2
        go_wp2_with fail
        go_loopw [0, 9] (fun a i w2 => ∃ (k : Nat) (done rest : List UInt8), a = .string (bs rest) ∧ i = .int .i64 k ∧ k + rest.length ≤ body.length ∧ Hid (EncAt body (zs.map Int.toNat) k done rest) ∧ Hid (Lib.IsBuilder 54 5 wr.heap.size wr.heap.size (Lib.byteCells done) w2 ∧ Below wr.heap.size wr w2)) (fun a _ _ => strOf a)
        case atStart => exact ⟨0, [], body, rfl, rfl, by omega, hide (EncAt.start _ _), hide ⟨HI.out, HB2.out⟩⟩
        case round =>
          obtain ⟨k, done, rest, rfl, rfl, hkr, hE, hIB⟩ := hrel
          rename World => W2
          have hsz := bs_size rest
          by_cases hne : rest = []
          · subst hne
            have hem : (bs []).toList.isEmpty = true := emp_t' rfl
            have hem2 : (bs []).toList = [] := List.isEmpty_iff.1 hem
            have hEo := hE.out.fin
            have ho := hIB.out.1
            have CS := Lib.hid (Tryz.Builder_String_any wr.heap.size wr.heap.size done W2 ho hIB.out.2.size)
            have hdn := hE.out.bound (by omega)
            have hds : (bs done).size = done.length := bs_size done
            have s1 : ¬ 9223372036854775807 < (bs done).size + 5 := by omega
            have s2 : ¬ 9223372036854775802 < (bs done).size := by omega
            have HEO := Lib.hid hEo
            have s3 : (⟨done.toArray⟩ : ByteArray) = bs done := rfl
            rw [s3] at CS
            clear ho hEo hE s3
            go_wp2_with fail
            (with_reducible refine (CS.out).mono ?_); rintro e w6 ⟨rfl, g6⟩
            go_wp2_with fail
            go_ret2
            refine ⟨?_, hIB.out.2.trans g6⟩
            rw [HO.out, HEO.out, ← bs_app]
            rfl
          · have hp : 1 ≤ rest.length := List.length_pos_iff.2 hne
            have hem : (bs rest).toList.isEmpty = false := emp_f' (by omega)
            have hem2 : ¬ (bs rest).toList = [] := fun e => by rw [e] at hem; cases hem
            obtain ⟨hn1, hn2⟩ := nextT_pos HK.out hne k
            have hnz := nextT_z (rest := rest) HG.out k
            obtain ⟨nx, hnx⟩ : ∃ nx, nextT rest ((zs.map Int.toNat).drop k) = nx := ⟨_, rfl⟩
            rw [hnx] at hn1 hn2 hnz
            have hk1 : IntKind.i64.wrap ((k : Int) + 1) = ((k + 1 : Nat) : Int) := by rw [IntKind.wrap_i64]; omega
            have hEs := hE.out.step (by omega) HK.out hne
            rw [hnx] at hEs
            have hdl := hE.out.bound (by omega)
            have hhd := hexDigits_len nx (by omega)
            obtain ⟨H, hH⟩ : ∃ H, bs (hexDigits nx) = H := ⟨_, rfl⟩
            obtain ⟨E, hEE⟩ : ∃ E, (bs rest).extract 0 nx = E := ⟨_, rfl⟩
            have hHs : H.size = (hexDigits nx).length := by rw [← hH, bs_size]
            have hEsz : E.size = nx := by rw [← hEE, bs_take, bs_size, List.length_take]; omega
            have hP : H ++ ⟨#[13, 10]⟩ ++ E ++ ⟨#[13, 10]⟩ = bs (pieceT rest nx) := by
              rw [← hH, ← hEE, bs_take, show (⟨#[13, 10]⟩ : ByteArray) = bs [13, 10] from rfl, bs_app, bs_app, bs_app]; rfl
            have kF : ∀ X : World, Hid (Below W2.heap.size W2 X) → Calls Tryz.prog 28 #[.int .i64 (nx : Int), .int .i64 16] X fun e w5 => e = .returned (.string H) ∧ Hid (Below W2.heap.size W2 w5) := fun X hX => (FormatInt16 nx (by omega) X ((HT.out.below hIB.out.2).below hX.out)).mono fun e w5 ⟨he, h5⟩ => ⟨by rw [he, ← hH]; rfl, hide (hX.out.trans (h5.mono hX.out.size))⟩
            have KF := Lib.hid kF
            have kW : ∀ X : World, Hid (Below W2.heap.size W2 X) → Calls Tryz.prog 27 #[.pointer (some ⟨wr.heap.size, 0, none⟩), .string (H ++ ⟨#[13, 10]⟩ ++ E ++ ⟨#[13, 10]⟩)] X fun e w5 => (∃ m : Nat, e = .returned (.tuple #[.int .i64 m, .nilIface])) ∧ Hid (Lib.IsBuilder 54 5 wr.heap.size wr.heap.size (Lib.byteCells (done ++ pieceT rest nx)) w5 ∧ Below wr.heap.size wr w5) := fun X hX => by
              have hsp : (bs (pieceT rest nx)).size ≤ 3000 := by
                rw [bs_size]; simp [pieceT]; omega
              rw [hP]
              refine (WriteString_any wr.heap.size wr.heap.size done (bs (pieceT rest nx)) X (builder_below hIB.out.1 hX.out) (by omega) (by have := hIB.out.2.size; have := hX.out.size; omega)).mono fun e w5 ⟨he, h1, h2⟩ => ⟨⟨_, he⟩, hide ⟨h1, (hIB.out.2.trans (hX.out.mono hIB.out.2.size)).trans h2⟩⟩
            have KW := Lib.hid kW
            have s1 : ¬ 9223372036854775805 < H.size := by omega
            have s2 : ¬ 9223372036854775807 < H.size + 2 := by omega
            have s3 : ¬ 9223372036854775807 < H.size + 2 + E.size := by omega
            have s4 : ¬ 9223372036854775805 < H.size + 2 + E.size := by omega
            have s5 : ¬ 9223372036854775807 < H.size + 2 + E.size + 2 := by omega
            have hnr : nx ≤ (bs rest).size := by omega
            have hRest := bs_drop rest nx
            rw [hsz] at hRest
            have HES := Lib.hid hEs
            have HIB0 := Lib.hid hIB.out.2
            clear kF kW hEs hH hP hdl hhd hE hIB
            clear hnx hHs hEsz
            by_cases hlt : k < zs.length
            · obtain ⟨b, o, rfl, hbl, c1⟩ := HR.out.zint k hlt
              rw [dif_pos hlt] at hnz
              obtain ⟨x, hx⟩ : ∃ x, zs[k] = x := ⟨_, rfl⟩
              rw [hx] at c1 hnz
              have c2 := (HIB0.out.cell (p := ⟨b, o + k, none⟩) hbl).trans c1
              clear hx c1
              go_wp2_with fail
              rw [← hnz]
              clear hnz c2
              have hd0 : Hid (Below W2.heap.size W2 W2.drew) := hide (Below.refl _ _).drew
              have hd1 : Hid (Below W2.heap.size W2 W2) := hide (Below.refl _ _)
              go_region_held3 (fun _ => True) (trivial) (first
                | (go_at_call 28; (with_reducible refine (KF.out _ (by assumption)).mono ?_); rintro e w5 ⟨rfl, hb5⟩)
                | (go_at_call 27; (with_reducible refine (KW.out _ (by assumption)).mono ?_); rintro e w6 ⟨⟨m6, rfl⟩, hb6⟩))
              all_goals go_wp2_with fail
              all_goals exact ⟨⟨k + 1, _, _, rfl, by go_num, by rw [List.length_drop]; omega, HES, hb6⟩, by show (bs _).size < (bs _).size; rw [bs_size, bs_size, List.length_drop]; omega⟩
            · rw [dif_neg hlt] at hnz
              have hlt' : decide ((k : Int) < (zs.length : Int)) = false := by simp; omega
              go_wp2_with fail
              rw [← hnz]
              clear hnz
              have hd0 : Hid (Below W2.heap.size W2 W2.drew) := hide (Below.refl _ _).drew
              have hd1 : Hid (Below W2.heap.size W2 W2) := hide (Below.refl _ _)
              go_region_held3 (fun _ => True) (trivial) (first
                | (go_at_call 28; (with_reducible refine (KF.out _ (by assumption)).mono ?_); rintro e w5 ⟨rfl, hb5⟩)
                | (go_at_call 27; (with_reducible refine (KW.out _ (by assumption)).mono ?_); rintro e w6 ⟨⟨m6, rfl⟩, hb6⟩))
              all_goals go_wp2_with fail
              all_goals exact ⟨⟨k + 1, _, _, rfl, by go_num, by rw [List.length_drop]; omega, HES, hb6⟩, by show (bs _).size < (bs _).size; rw [bs_size, bs_size, List.length_drop]; omega⟩
end

section
open Go.RowKit

theorem rInD (n lo hi : Int) (r : Bool) (h : (decide (lo ≤ n) && decide (n ≤ hi)) = r) (w : World) : Calls Tryz.prog 30 #[.int .i64 n, .int .i64 lo, .int .i64 hi] w fun e w' => e = .returned (.bool r) ∧ w' = w := by
  subst h
  by_cases h1 : lo ≤ n
  · have d1 : decide (lo ≤ n) = true := by simpa using h1
    rw [d1, Bool.true_and]
    go_enter Tryz.func30, Tryz.ntmps30
    go_wp2_with fail
    go_ret
    exact ⟨rfl, rfl⟩
  · have d1 : decide (lo ≤ n) = false := by simpa using h1
    rw [d1, Bool.false_and]
    go_enter Tryz.func30, Tryz.ntmps30
    go_wp2_with fail
    go_ret
    exact ⟨rfl, rfl⟩
set_option maxRecDepth 100000 in
set_option maxHeartbeats 16000000 in
theorem rEncode (body : List UInt8) (A : Option Addr) (n c : Nat) (zs : List Int) (w : World) (hr : Reads w w.heap.size 1 A n (zs.map (Value.int .i64))) (hn : n ≤ 1000000) (hb : body.length ≤ 1000000) :
    Calls Tryz.prog 13 #[.string (bs body), .slice A n c] w fun e w' => e = .returned (.tuple #[.string (bs (encOut body zs).1), .int .i64 (encOut body zs).2]) ∧ Below w.heap.size w w' := by
  obtain rfl := hr.zlen
  have hbz : (bs body).size = body.length := bs_size body
  by_cases hbig : 2048 < body.length
  · have eO : encOut body zs = ([], 4) := by unfold encOut; rw [if_pos hbig]
    rw [eO]
    have e1 : decide ((2048 : Int) < ((bs body).size : Int)) = true := by simp; omega
    go_enter Tryz.func13, Tryz.ntmps13
    go_wp2_with fail
    go_ret2
    exact ⟨rfl, Below.refl _ _⟩
  · have e1 : decide ((2048 : Int) < ((bs body).size : Int)) = false := by simp; omega
    have HR := Lib.hid hr
    clear hr
    go_enter Tryz.func13, Tryz.ntmps13
    go_wp2_with fail
    go_loopw [6] (fun i wr => ∃ k : Nat, i = .int .i64 k ∧ k ≤ zs.length ∧ Hid (goodZ (zs.take k)) ∧ Below w.heap.size w wr) (fun i _ => zs.length - (intOf i).toNat)
    case atStart => exact ⟨0, rfl, by omega, hide (by intro z hz; simp at hz), Below.refl _ _⟩
    case round =>
      obtain ⟨k, rfl, hk, hg, hbw⟩ := hrel
      rename World => wr
      by_cases hlt : k < zs.length
      · obtain ⟨b, o, rfl, hbl, c1⟩ := HR.out.zint k hlt
        obtain ⟨x, hx⟩ : ∃ x, zs[k] = x := ⟨_, rfl⟩
        rw [hx] at c1
        have c1 := (hbw.cell (p := ⟨b, o + k, none⟩) hbl).trans c1
        by_cases hx2 : 1 ≤ x ∧ x ≤ 2048
        · have hG : goodZ (zs.take (k + 1)) := by
            intro z hz
            rw [List.take_succ_eq_append_getElem hlt, hx] at hz
            rcases List.mem_append.1 hz with h | h
            · exact hg.out z h
            · rw [List.mem_singleton.1 h]; exact hx2
          have HG := Lib.hid hG
          clear hG hx
          go_wp2_with fail
          (with_reducible refine (rInD x 1 2048 true (by simp; omega) _).mono ?_); rintro e w' ⟨rfl, rfl⟩
          go_wp2_with fail
          go_roundw
          case rel => exact ⟨k + 1, by go_num, by omega, HG, hbw⟩
          case measure => simp [intOf]; omega
        · have hB : ¬ goodZ zs := fun h => hx2 (by have := h zs[k] (List.getElem_mem hlt); rw [hx] at this; exact this)
          have eO : encOut body zs = ([], 2) := by unfold encOut; rw [if_neg hbig, if_neg hB]
          have HO := Lib.hid eO
          clear hx hB eO
          go_wp2_with fail
          (with_reducible refine (rInD x 1 2048 false (by simp; omega) _).mono ?_); rintro e w' ⟨rfl, rfl⟩
          go_wp2_with fail
          go_ret2
          rw [HO.out]
          exact ⟨rfl, hbw⟩
      · obtain rfl : k = zs.length := by omega
        have hd : decide ((zs.length : Int) < (zs.length : Int)) = false := by simp
        have hG := hg.out
        rw [List.take_length] at hG
        have eO : encOut body zs = (encodeT body (zs.map Int.toNat), 0) := by unfold encOut; rw [if_neg hbig, if_pos hG]
        have HO := Lib.hid eO
        have HG := Lib.hid hG
        have HK := Lib.hid (goodZ_ks hG)
        clear eO hG hg
        go_wp2_with fail
        go_loopw [0, 7, 8] (fun a o2 i w2 => ∃ (k : Nat) (done rest : List UInt8), a = .string (bs rest) ∧ o2 = .string (bs done) ∧ i = .int .i64 k ∧ k + rest.length ≤ body.length ∧ Hid (EncAt body (zs.map Int.toNat) k done rest) ∧ Hid (Below w.heap.size w w2)) (fun a _ _ _ => strOf a)
        case atStart => exact ⟨0, [], body, rfl, rfl, rfl, by omega, hide (EncAt.start _ _), hide hbw⟩
        case round =>
          obtain ⟨k, done, rest, rfl, rfl, rfl, hkr, hE, hIB⟩ := hrel
          rename World => W2
          have hsz := bs_size rest
          by_cases hne : rest = []
          · subst hne
            have hem : (bs []).toList.isEmpty = true := emp_t' rfl
            have hem2 : (bs []).toList = [] := List.isEmpty_iff.1 hem
            have hEo := hE.out.fin
            have hdn := hE.out.bound (by omega)
            have hds : (bs done).size = done.length := bs_size done
            have s1 : ¬ 9223372036854775807 < (bs done).size + 5 := by omega
            have s2 : ¬ 9223372036854775802 < (bs done).size := by omega
            have HEO := Lib.hid hEo
            clear hEo hE hds
            go_wp2_with fail
            go_ret2
            refine ⟨?_, hIB.out⟩
            rw [HO.out, HEO.out, ← bs_app]
            rfl
          · have hp : 1 ≤ rest.length := List.length_pos_iff.2 hne
            have hem : (bs rest).toList.isEmpty = false := emp_f' (by omega)
            have hem2 : ¬ (bs rest).toList = [] := fun e => by rw [e] at hem; cases hem
            obtain ⟨hn1, hn2⟩ := nextT_pos HK.out hne k
            have hnz := nextT_z (rest := rest) HG.out k
            obtain ⟨nx, hnx⟩ : ∃ nx, nextT rest ((zs.map Int.toNat).drop k) = nx := ⟨_, rfl⟩
            rw [hnx] at hn1 hn2 hnz
            have hk1 : IntKind.i64.wrap ((k : Int) + 1) = ((k + 1 : Nat) : Int) := by rw [IntKind.wrap_i64]; omega
            have hEs := hE.out.step (by omega) HK.out hne
            rw [hnx] at hEs
            have hdl := hE.out.bound (by omega)
            have hhd := hexDigits_len nx (by omega)
            obtain ⟨D, hD⟩ : ∃ D, bs done = D := ⟨_, rfl⟩
            obtain ⟨H, hH⟩ : ∃ H, bs (hexDigits nx) = H := ⟨_, rfl⟩
            obtain ⟨E, hEE⟩ : ∃ E, (bs rest).extract 0 nx = E := ⟨_, rfl⟩
            have hDs : D.size = done.length := by rw [← hD, bs_size]
            have hHs : H.size = (hexDigits nx).length := by rw [← hH, bs_size]
            have hEsz : E.size = nx := by rw [← hEE, bs_take, bs_size, List.length_take]; omega
            have hP : D ++ H ++ ⟨#[13, 10]⟩ ++ E ++ ⟨#[13, 10]⟩ = bs (done ++ pieceT rest nx) := by
              rw [← hD, ← hH, ← hEE, bs_take, show (⟨#[13, 10]⟩ : ByteArray) = bs [13, 10] from rfl, bs_app, bs_app, bs_app, bs_app]
              simp [pieceT]
            have kF : ∀ X : World, Hid (Below W2.heap.size W2 X) → Calls Tryz.prog 31 #[.int .i64 (nx : Int)] X fun e w5 => e = .returned (.string H) ∧ Hid (Below W2.heap.size W2 w5) := fun X hX => (rHex nx (by omega) X).mono fun e w5 ⟨he, h5⟩ => ⟨by rw [he, ← hH, hx0, if_neg (by omega)], hide (hX.out.trans (h5.mono hX.out.size))⟩
            have KF := Lib.hid kF
            have s0 : ¬ 9223372036854775807 < D.size + H.size := by omega
            have s1 : ¬ 9223372036854775805 < D.size + H.size := by omega
            have s2 : ¬ 9223372036854775807 < D.size + H.size + 2 := by omega
            have s3 : ¬ 9223372036854775807 < D.size + H.size + 2 + E.size := by omega
            have s4 : ¬ 9223372036854775805 < D.size + H.size + 2 + E.size := by omega
            have s5 : ¬ 9223372036854775807 < D.size + H.size + 2 + E.size + 2 := by omega
            have hnr : nx ≤ (bs rest).size := by omega
            have hRest := bs_drop rest nx
            rw [hsz] at hRest
            have HES := Lib.hid hEs
            have HPP := Lib.hid hP
            clear kF hEs hH hP hdl hhd hE
            clear hnx hHs hEsz hDs
            by_cases hlt : k < zs.length
            · obtain ⟨b, o, rfl, hbl, c1⟩ := HR.out.zint k hlt
              rw [dif_pos hlt] at hnz
              obtain ⟨x, hx⟩ : ∃ x, zs[k] = x := ⟨_, rfl⟩
              rw [hx] at c1 hnz
              have c2 := (hIB.out.cell (p := ⟨b, o + k, none⟩) hbl).trans c1
              clear hx c1
              go_wp2_with fail
              rw [← hnz]
              clear hnz c2
              have hd0 : Hid (Below W2.heap.size W2 W2.drew) := hide (Below.refl _ _).drew
              have hd1 : Hid (Below W2.heap.size W2 W2) := hide (Below.refl _ _)
              go_region_held3 (fun _ => True) (trivial) (first
                | (go_at_call 31; (with_reducible refine (KF.out _ (by assumption)).mono ?_); rintro e w5 ⟨rfl, hb5⟩))
              all_goals go_wp2_with fail
              all_goals exact ⟨⟨k + 1, _, _, rfl, by rw [HPP.out], by go_num, by rw [List.length_drop]; omega, HES, hide (hIB.out.trans (hb5.out.mono hIB.out.size))⟩, by show (bs _).size < (bs _).size; rw [bs_size, bs_size, List.length_drop]; omega⟩
            · rw [dif_neg hlt] at hnz
              have hlt' : decide ((k : Int) < (zs.length : Int)) = false := by simp; omega
              go_wp2_with fail
              rw [← hnz]
              clear hnz
              have hd0 : Hid (Below W2.heap.size W2 W2.drew) := hide (Below.refl _ _).drew
              have hd1 : Hid (Below W2.heap.size W2 W2) := hide (Below.refl _ _)
              go_region_held3 (fun _ => True) (trivial) (first
                | (go_at_call 31; (with_reducible refine (KF.out _ (by assumption)).mono ?_); rintro e w5 ⟨rfl, hb5⟩))
              all_goals go_wp2_with fail
              all_goals exact ⟨⟨k + 1, _, _, rfl, by rw [HPP.out], by go_num, by rw [List.length_drop]; omega, HES, hide (hIB.out.trans (hb5.out.mono hIB.out.size))⟩, by show (bs _).size < (bs _).size; rw [bs_size, bs_size, List.length_drop]; omega⟩
end

section
open Go.RowKit

theorem ne_texts {x y : List UInt8} (h : x ≠ y) : ((bs x).toList == (bs y).toList) = false := by
  rw [Lib.toList_data, Lib.toList_data, bs_list, bs_list, beq_eq_false_iff_ne]; exact h
theorem eq_texts {x y : List UInt8} (h : x = y) : ((bs x).toList == (bs y).toList) = true := by
  subst h; simp
theorem beq_len {α : Type} [BEq α] [LawfulBEq α] {x y : List α} (h : x.length ≠ y.length) : (x == y) = false := by
  rw [beq_eq_false_iff_ne]; intro e; exact h (by rw [e])
theorem take_succ_eq {α : Type} {x y : List α} {k : Nat} (hx : k < x.length) (hy : k < y.length) (h : x.take k = y.take k) (e : x[k] = y[k]) : x.take (k + 1) = y.take (k + 1) := by
  rw [List.take_succ_eq_append_getElem hx, List.take_succ_eq_append_getElem hy, h, e]

/-- a list literal of texts, in its new block -/
theorem reads_new (w : World) (t : TypeId) (xs : List (List UInt8)) (cs : Array Value) (h : cs.toList = strs xs) : Reads (w.alloc (.cells cs t)) (w.alloc (.cells cs t)).heap.size 1 (some ⟨w.heap.size, 0, none⟩) xs.length (strs xs) := by
  refine ⟨by rw [strs_len, Nat.mul_one], fun _ => ⟨_, rfl, by simp, fun j u hu => ?_⟩⟩
  rw [Addr.add_lit, Nat.zero_add, (Blk.new w t cs).cell j]
  rw [← h] at hu
  simpa using hu
end

section
open Go.RowKit

/-- the first two bytes in capitals where they are digits -/
def upB (i : Nat) (b : UInt8) : UInt8 := if i < 2 ∧ 97 ≤ b.toNat ∧ b.toNat ≤ 102 then b - 97 + 65 else b
def upL : Nat → List UInt8 → List UInt8
  | _, [] => []
  | i, b :: r => upB i b :: upL (i + 1) r
theorem upL_app (a b : List UInt8) : ∀ i, upL i (a ++ b) = upL i a ++ upL (i + a.length) b := by
  induction a with
  | nil => intro i; rfl
  | cons x a ih =>
    intro i
    show upB i x :: upL (i + 1) (a ++ b) = _
    rw [ih (i + 1)]
    show _ = upB i x :: (upL (i + 1) a ++ upL (i + (a.length + 1)) b)
    rw [show i + 1 + a.length = i + (a.length + 1) by omega]
theorem upL_id (l : List UInt8) : ∀ i, 2 ≤ i → upL i l = l := by
  induction l with
  | nil => intro i _; rfl
  | cons b r ih =>
    intro i h
    show upB i b :: upL (i + 1) r = _
    rw [ih (i + 1) (by omega)]
    unfold upB
    rw [if_neg (by omega)]
theorem upL_len (l : List UInt8) : ∀ i, (upL i l).length = l.length := by
  induction l with
  | nil => intro i; rfl
  | cons b r ih => intro i; show (upL (i + 1) r).length + 1 = _; rw [ih]; rfl
/-- one chunk in capitals, a zero before its size -/
def otherT (all : List UInt8) : List UInt8 := 48 :: upL 0 (all.take (all.length - 2))
def digF (n : Nat) : List UInt8 := if n < 16 then [hxd n] else [hxd (n / 16), hxd (n % 16)]
theorem digF_eq (n : Nat) (h : n < 256) : hexDigits n = digF n := by
  unfold digF
  by_cases h1 : n < 16
  · rw [if_pos h1, hexDigits_small h1]
  · rw [if_neg h1, hexDigits_big h1, hexDigits_small (by omega)]; rfl
theorem digF_up : ∀ n : Fin 256, hexN 0 (48 :: upL 0 (digF n.val)) = n.val ∧ (∀ b ∈ (48 :: upL 0 (digF n.val)), hexV b ≠ none) ∧ (digF n.val).length ≤ 2 ∧ upL (digF n.val).length [13, 10] = [13, 10] := by decide +kernel
def trailT : List UInt8 := [88, 45, 65, 58, 32, 49, 13, 10, 121, 58, 13, 10, 13, 10]
theorem feed_trail (B : List UInt8) : feedC ⟨5, 0, 0, 0, B, [], 0, 0⟩ trailT = (⟨7, 0, 0, 0, B, [], 2, 0⟩, 14) := by
  have c1 : (colT [88, 45, 65, 58, 32, 49]).2.2 = 0 := by decide +kernel
  have c2 : (colT [121, 58]).2.2 = 0 := by decide +kernel
  simp [feedC, stepC, overC, trailT, c1, c2]
theorem feed_zero (B : List UInt8) (ds : List UInt8) (h : ds = [48, 13, 10] ∨ ds = [48, 48, 13, 10]) : feedC ⟨0, 0, 0, 0, B, [], 0, 0⟩ ds = (⟨5, 0, 0, 0, B, [], 0, 0⟩, ds.length) := by
  rcases h with rfl | rfl <;> rfl
theorem decode_other (body : List UInt8) (h : body.length ≤ 200) : decodeT (otherT (encodeT body []) ++ trailT) = (body, (otherT (encodeT body [])).length + 14, 200) := by
  have key : feedC newC (otherT (encodeT body [])) = (⟨5, 0, 0, 0, body, [], 0, 0⟩, (otherT (encodeT body [])).length) := by
    by_cases hb : body = []
    · subst hb
      rfl
    · have hl0 : 1 ≤ body.length := List.length_pos_iff.2 hb
      have e0 : encodeT body [] = hexDigits body.length ++ [13, 10] ++ body ++ [13, 10] ++ [48, 13, 10] ++ [13, 10] := by
        unfold encodeT
        obtain ⟨f, hf⟩ : ∃ f, body.length = f + 1 := ⟨body.length - 1, by omega⟩
        rw [hf]
        unfold encT
        rw [if_neg hb]
        have e1 : nextT body [] = f + 1 := hf
        have e2 : ∀ g, encT g [] [] = [] := fun g => by cases g <;> rfl
        rw [e1, ← hf, List.take_length, List.drop_length, List.tail_nil, e2]
        simp
      obtain ⟨d1, d2, d3, d4⟩ := digF_up ⟨body.length, by omega⟩
      simp only at d1 d2 d3 d4
      have e1 : otherT (encodeT body []) = (48 :: upL 0 (digF body.length)) ++ [13, 10] ++ body ++ [13, 10] ++ [48, 13, 10] := by
        unfold otherT
        rw [e0, digF_eq _ (by omega)]
        have : (digF body.length ++ [13, 10] ++ body ++ [13, 10] ++ [48, 13, 10] ++ [13, 10]).length - 2 = (digF body.length ++ [13, 10] ++ body ++ [13, 10] ++ [48, 13, 10]).length := by simp; omega
        rw [this, List.take_left]
        rw [upL_app, upL_app, upL_app, upL_app, Nat.zero_add, d4]
        have p1 : 1 ≤ (digF body.length).length := by unfold digF; split <;> simp
        rw [upL_id body _ (by simp only [List.length_append, List.length_cons, List.length_nil]; omega), upL_id [13, 10] _ (by simp only [List.length_append, List.length_cons, List.length_nil]; omega), upL_id [48, 13, 10] _ (by simp only [List.length_append, List.length_cons, List.length_nil]; omega)]
        simp
      have hc := feed_chunk (48 :: upL 0 (digF body.length)) body [] d2 (by simp) (by simp [upL_len]; omega) d1 hb (by simp; omega)
      rw [e1, feed_app]
      show ((feedC (feedC ⟨0, 0, 0, 0, [], [], 0, 0⟩ _).1 _).1, (feedC ⟨0, 0, 0, 0, [], [], 0, 0⟩ _).2 + (feedC (feedC ⟨0, 0, 0, 0, [], [], 0, 0⟩ _).1 _).2) = _
      rw [hc]
      simp only [List.nil_append]
      rw [feed_zero body [48, 13, 10] (.inl rfl), List.length_append (bs := [48, 13, 10])]
  unfold decodeT
  rw [feed_app, key]
  simp only
  rw [feed_trail]
  simp
/-- a string in which each / is CRLF -/
def linesT : List UInt8 → List UInt8
  | [] => []
  | b :: r => (if b = 47 then [13, 10] else [b]) ++ linesT r
end

section
open Go.RowKit

theorem chD0 : decodeT (linesT [51, 47, 97, 98, 99, 47, 48, 47, 47]) = ([97, 98, 99], 13, 200) := by decide +kernel
theorem chD1 : decodeT (linesT [51, 59, 120]) = ([], 2, 400) := by decide +kernel
theorem chD2 : decodeT (linesT [51, 47, 97, 98, 99, 47, 48, 48, 47, 120, 58, 32, 49, 47, 47, 122]) = ([97, 98, 99], 20, 200) := by decide +kernel
theorem chD3 : decodeT (linesT [51, 47, 97, 98]) = ([97, 98], 5, 0) := by decide +kernel
theorem chD4 : decodeT (linesT [103]) = ([], 1, 400) := by decide +kernel
theorem chD5 : decodeT (linesT [51, 32, 47]) = ([], 2, 400) := by decide +kernel
theorem chD6 : decodeT (linesT [47]) = ([], 1, 400) := by decide +kernel
theorem chD7 : decodeT (linesT [49, 50, 51, 52, 53, 54, 55, 56, 57]) = ([], 9, 400) := by decide +kernel
theorem chD8 : decodeT (linesT [56, 48, 49, 47]) = ([], 5, 413) := by decide +kernel
theorem chD9 : decodeT (linesT [102, 102, 102, 102, 102, 102, 102, 102, 47]) = ([], 10, 413) := by decide +kernel
theorem chD10 : decodeT (linesT [48, 47, 120, 47, 47]) = ([], 6, 400) := by decide +kernel
theorem chD11 : decodeT (linesT [51, 47, 97, 98, 99, 100]) = ([], 7, 400) := by decide +kernel
theorem chE0 : encodeT [97, 98, 99, 100, 101] [2] = linesT [50, 47, 97, 98, 47, 51, 47, 99, 100, 101, 47, 48, 47, 47] := by
  simp [encodeT, encT, nextT, hexDigits_small, linesT]
  decide
theorem chE1 : encodeT [97, 98, 99] [9] = linesT [51, 47, 97, 98, 99, 47, 48, 47, 47] := by
  simp [encodeT, encT, nextT, hexDigits_small, linesT]
  decide
theorem chE2 : encodeT [] [] = linesT [48, 47, 47] := by
  simp [encodeT, encT, linesT]
theorem chF : feedC newC (linesT [53, 47, 97, 98]) = (⟨2, 0, 0, 3, [97, 98], [], 0, 0⟩, 5) := by decide +kernel
end
end Go.Proofs.YtkbihipgnlglbaaGreatDoor
