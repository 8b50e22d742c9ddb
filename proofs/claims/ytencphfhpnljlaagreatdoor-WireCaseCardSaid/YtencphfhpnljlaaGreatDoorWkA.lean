/-
  What wire.Text writes, in plain words; of requests made of numbers by evaluation.
  waypostlaw11: made.
  wire: Tell of events without an error; waypostkit: SameWire of two new parsers.
  Requests made of numbers, in plain words: lengths, events.
  Written by merge.py.
-/
import Derived.Test.YtencphfhpnljlaaGreatDoorWi1
import Derived.Test.YtencphfhpnljlaaGreatDoorWi5
import Derived.Test.YtencphfhpnljlaaGreatDoorRq6
import Derived.IntWalk
import Derived.Lib.BufferOwn
import Derived.BigRegion
import Derived.Deep.Cut
import Derived.Deep.DeepCutAuto
import Derived.Test.YtencphfhpnljlaaGreatDoorWp14
import Derived.Laws.StructEq
import Derived.BigQuiet
import Derived.Deep.QuietTactic
import Derived.Test.YtencphfhpnljlaaGreatDoorWtA
namespace Go.Proofs.YtencphfhpnljlaaGreatDoor
open Go.RowKit


theorem text_all : ∀ k : Fin 1080, (textP (madeM k.val) (madeT k.val) (madeL k.val) (madeB k.val) == (textW k.val, 0)) = true := by decide +kernel
theorem text_one (k : Nat) : textP (madeM k) (madeT k) (madeL k) (madeB k) = (textW k, 0) := by
  have h := text_all ⟨k % 1080, Nat.mod_lt _ (by omega)⟩
  obtain ⟨h1, h2, h3, h4, h5⟩ := made_mod k
  simp only [beq_iff_eq] at h
  rw [h1, h2, h3, h4, (text_mod k).1] at h
  exact h
/-- the line alone -/
theorem text_line (k : Nat) : textP (madeM k) (madeT k) [] [] = ((reqT (madeM k) (madeT k)).1 ++ [13, 10, 13, 10], 0) := by
  have h : ∀ j : Fin 12, (textP (madeM j.val) (madeT j.val) [] [] == ((reqT (madeM j.val) (madeT j.val)).1 ++ [13, 10, 13, 10], 0)) = true := by decide +kernel
  have h := h ⟨k % 12, Nat.mod_lt _ (by omega)⟩
  have e1 : madeM (k % 12) = madeM k := by unfold madeM; rw [show k % 12 % 4 = k % 4 by omega]
  have e2 : madeT (k % 12) = madeT k := by unfold madeT; rw [show k % 12 / 4 % 3 = k / 4 % 3 by omega]
  simp only [beq_iff_eq] at h
  rw [e1, e2] at h
  exact h

/-- what Mod returns -/
def modV (n m : Int) : Int := if 0 ≤ n then n % m else if n.tmod m < 0 then n.tmod m + m else n.tmod m
theorem modV_at (n m : Int) (hm : 1 ≤ m) : 0 ≤ modV n m ∧ modV n m < m := by
  have u1 := Int.tmod_lt_of_pos n (show 0 < m by omega)
  have u2 := Int.lt_tmod_of_pos n (show 0 < m by omega)
  have hr := Int.emod_nonneg n (show m ≠ 0 by omega)
  have hr2 := Int.emod_lt_of_pos n (show 0 < m by omega)
  unfold modV
  split
  · exact ⟨hr, hr2⟩
  · split <;> omega
theorem Mod_is (n m : Int) (w : World) (hn1 : -9223372036854775808 ≤ n) (hn2 : n ≤ 9223372036854775807) (hm : 1 ≤ m) (hm2 : m ≤ 1099511627776) :
    Calls Tryz.prog 15 #[.int .i64 n, .int .i64 m] w fun e w' => e = .returned (.int .i64 (modV n m)) ∧ w = w' := by
  have d1 : decide (m < 1) = false := by simp; omega
  have u1 := Int.tmod_lt_of_pos n (show 0 < m by omega)
  have u2 := Int.lt_tmod_of_pos n (show 0 < m by omega)
  unfold modV
  by_cases hp : 0 ≤ n
  · have hr := Int.emod_nonneg n (show m ≠ 0 by omega)
    have hr2 := Int.emod_lt_of_pos n (show 0 < m by omega)
    have d2 : decide (n % m < 0) = false := by simp; omega
    rw [if_pos hp]
    clear u1 u2
    go_enter Tryz.func15, Tryz.ntmps15
    go_wp2_with fail
    go_ret
    exact ⟨rfl, rfl⟩
  · have hneg : n < 0 := by omega
    rw [if_neg hp]
    by_cases h0 : n.tmod m < 0
    · have d2 : decide (n.tmod m < 0) = true := by simpa using h0
      rw [if_pos h0]
      go_enter Tryz.func15, Tryz.ntmps15
      go_wp2_with fail
      go_ret
      exact ⟨rfl, rfl⟩
    · have d2 : decide (n.tmod m < 0) = false := by simpa using h0
      rw [if_neg h0]
      go_enter Tryz.func15, Tryz.ntmps15
      go_wp2_with fail
      go_ret
      exact ⟨rfl, rfl⟩
/-- the number that a request is made of -/
def madeK (z : Int) : Nat := (modV z 16777216).toNat
theorem madeK_is (z : Int) : modV z 16777216 = (madeK z : Int) ∧ madeK z < 16777216 := by
  obtain ⟨h1, h2⟩ := modV_at z 16777216 (by omega)
  unfold madeK
  omega
theorem blk_at {W : World} {g : Nat} {t : TypeId} {cs : Array Value} (h : g = W.heap.size) : Blk (W.alloc (.cells cs t)) g t cs := by subst h; exact Blk.new W t cs
theorem blk_drew {W : World} {g : Nat} {t : TypeId} {cs : Array Value} (h : Blk W g t cs) : Blk W.drew g t cs := h
theorem below_drew' {b : Nat} {w W : World} (h : Below b w W) : Below b w W.drew := h.drew
/-- behind the request line's making -/
structure MadeCut11 (w : World) (M T : List UInt8) (g : Nat) (wx : World) : Prop where
  far : w.heap.size < g
  blk : Blk wx g 24 #[.string (bs M), .string (bs T)]
  res : Blk wx w.heap.size 24 #[.string ⟨#[]⟩, .string ⟨#[]⟩]
  bel : Below w.heap.size w wx
def MadePost11 (k : Nat) (w : World) (e : Ending) (w' : World) : Prop := ∃ A c, e = .returned (.tuple #[.agg #[.string (bs (madeM k)), .string (bs (madeT k))], .slice A (madeL k).length c, .string (bs (madeB k))]) ∧ Reads w' w'.heap.size 2 A (madeL k).length (fldsC (madeL k)) ∧ Below w.heap.size w w'
/-- behind the fields' first half -/
structure MadeCut11b (w : World) (M T : List UInt8) (g B : Nat) (l : List Fld) (v : Value) (W : World) : Prop where
  own : W.ownsRow B 49 2 v l.length (fldsC l)
  ge : w.heap.size < B
  blk : Blk W g 24 #[.string (bs M), .string (bs T)]
  res : Blk W w.heap.size 24 #[.string ⟨#[]⟩, .string ⟨#[]⟩]
  bel : Below w.heap.size w W
  g_lt : g < B
  far : w.heap.size < g
  le : B ≤ W.heap.size
theorem own_alloc {B e size n : Nat} {W : World} {v : Value} {xs : List Value} (ho : W.ownsRow B e size v n xs) (o : Obj) : (W.alloc o).ownsRow B e size v n xs := own_below ho ((Below.refl _ _).alloc (Nat.le_refl _) o)
/-- one more field -/
theorem MadeCut11b.more {w W w5 : World} {M T : List UInt8} {g B : Nat} {l : List Fld} {v v' : Value} (h : MadeCut11b w M T g B l v W) {y : Fld} (ho : w5.ownsRow B 49 2 v' (l ++ [y]).length (fldsC (l ++ [y]))) (hb : Below B W w5) : MadeCut11b w M T g B (l ++ [y]) v' w5 :=
  ⟨ho, h.ge, h.blk.below hb h.g_lt, h.res.below hb h.ge, h.bel.trans (hb.mono (Nat.le_of_lt h.ge)), h.g_lt, h.far, Nat.le_trans h.le hb.size⟩
theorem MadeCut11b.fin {w W : World} {M T : List UInt8} {g B : Nat} {l : List Fld} {A : Option Addr} {c : Nat} (h : MadeCut11b w M T g B l (.slice A l.length c) W) :
    Blk ((W.setCell ⟨w.heap.size, 0, none⟩ (.string (bs M))).setCell ⟨w.heap.size, 1, none⟩ (.string (bs T))) w.heap.size 24 #[.string (bs M), .string (bs T)] ∧
      Reads ((W.setCell ⟨w.heap.size, 0, none⟩ (.string (bs M))).setCell ⟨w.heap.size, 1, none⟩ (.string (bs T))) ((W.setCell ⟨w.heap.size, 0, none⟩ (.string (bs M))).setCell ⟨w.heap.size, 1, none⟩ (.string (bs T))).heap.size 2 A l.length (fldsC l) ∧
      Below w.heap.size w ((W.setCell ⟨w.heap.size, 0, none⟩ (.string (bs M))).setCell ⟨w.heap.size, 1, none⟩ (.string (bs T))) := by
  refine ⟨?_, ?_, ?_⟩
  · have := (h.res.set_ 0 (.string (bs M))).set_ 1 (.string (bs T))
    simpa using this
  · exact Reads.of_own (h.own.kept (Lib.grownBy_setB (Lib.grownBy_setB (World.grownBy.refl W (some w.heap.size)) 0 _) 1 _) (.inr (own_blk_ne (e := 49) h.own h.res (by decide))))
  · exact (h.bel.setCell (p := ⟨w.heap.size, 0, none⟩) (Nat.le_refl _) _).setCell (p := ⟨w.heap.size, 1, none⟩) (Nat.le_refl _) _
set_option maxRecDepth 100000 in
set_option maxHeartbeats 8000000 in
theorem pMade (z : Int) (w : World) (hz1 : -9223372036854775808 ≤ z) (hz2 : z ≤ 9223372036854775807) :
    Calls Tryz.prog 7 #[.int .i64 z] w (MadePost11 (madeK z) w) := by
  unfold MadePost11
  obtain ⟨hk, hk2⟩ := madeK_is z
  have cM := fun X => Mod_is z 16777216 X hz1 hz2 (by omega) (by omega)
  rw [hk] at cM
  obtain ⟨k, hkk⟩ : ∃ k, madeK z = k := ⟨_, rfl⟩
  rw [hkk] at cM hk2 ⊢
  have CM := Lib.hid cM
  clear cM hk hkk hz1 hz2
  obtain ⟨a, ha, ha4⟩ : ∃ a, k % 4 = a ∧ a < 4 := ⟨_, rfl, Nat.mod_lt _ (by omega)⟩
  obtain ⟨q, hq⟩ : ∃ q, k / 4 = q := ⟨_, rfl⟩
  obtain ⟨b, hb, hb3⟩ : ∃ b, q % 3 = b ∧ b < 3 := ⟨_, rfl, Nat.mod_lt _ (by omega)⟩
  have t1 : (k : Int) % 4 = (a : Int) := by omega
  have t1' : (k : Int).tmod 4 = (a : Int) := by rw [Int.tmod_eq_emod_of_nonneg (by omega)]; omega
  have t2 : (k : Int).tdiv 4 = (q : Int) := by rw [Int.tdiv_eq_ediv_of_nonneg (by omega)]; omega
  have t2' : (k : Int) / 4 = (q : Int) := by omega
  have t3' : (q : Int).tmod 3 = (b : Int) := by rw [Int.tmod_eq_emod_of_nonneg (by omega)]; omega
  have t3 : (q : Int) % 3 = (b : Int) := by omega
  have x1 : (a : Int) < 4 := by omega
  have x2 : (b : Int) < 3 := by omega
  have w1 : IntKind.i64.wrap (q : Int) = (q : Int) := IntWalk.i64_in _ (by omega)
  have w2 : IntKind.i64.wrap (a : Int) = (a : Int) := IntWalk.i64_in _ (by omega)
  have w3 : IntKind.i64.wrap (b : Int) = (b : Int) := IntWalk.i64_in _ (by omega)
  obtain ⟨M, hM⟩ : ∃ M, madeM k = M := ⟨_, rfl⟩
  obtain ⟨T, hT⟩ : ∃ T, madeT k = T := ⟨_, rfl⟩
  have lM : ∀ h : a < ([.string ⟨#[71, 69, 84]⟩, .string ⟨#[80, 79, 83, 84]⟩, .string ⟨#[72, 69, 65, 68]⟩, .string ⟨#[80, 85, 84]⟩] : List Value).length, ([.string ⟨#[71, 69, 84]⟩, .string ⟨#[80, 79, 83, 84]⟩, .string ⟨#[72, 69, 65, 68]⟩, .string ⟨#[80, 85, 84]⟩] : List Value)[a]'h = .string (bs M) := by
    intro h
    rw [← hM]; unfold madeM; rw [ha]
    obtain rfl | rfl | rfl | rfl : a = 0 ∨ a = 1 ∨ a = 2 ∨ a = 3 := by omega
    all_goals rfl
  have lT : ∀ h : b < ([.string ⟨#[47]⟩, .string ⟨#[47, 97, 47, 98, 63, 113, 61, 49]⟩, .string ⟨#[47, 37, 52, 49]⟩] : List Value).length, ([.string ⟨#[47]⟩, .string ⟨#[47, 97, 47, 98, 63, 113, 61, 49]⟩, .string ⟨#[47, 37, 52, 49]⟩] : List Value)[b]'h = .string (bs T) := by
    intro h
    rw [← hT]; unfold madeT; rw [hq, hb]
    obtain rfl | rfl | rfl : b = 0 ∨ b = 1 ∨ b = 2 := by omega
    all_goals rfl
  rw [hM, hT]
  go_enter Tryz.func7, Tryz.ntmps7
  go_wp2_with fail
  (with_reducible refine (CM.out _).mono ?_); rintro e w1 ⟨rfl, rfl⟩
  go_wp2_with fail
  go_cut [6] (fun v wx => ∃ g, v = .pointer (some ⟨g, 0, none⟩) ∧ Hid (MadeCut11 w M T g wx))
  case first =>
    go_big_region
    all_goals
      (go_wp2_with fail
       go_meet
       refine ⟨_, rfl, hide ⟨?_, ?_, ?_, ?_⟩⟩
       · omega
       · repeat (first | exact blk_at (by simp) | refine blk_drew ?_ | refine Blk.alloc ?_ _)
       · repeat (first | exact blk_at (by simp) | refine blk_drew ?_ | refine Blk.alloc ?_ _)
       · repeat (first | exact Below.refl _ _ | refine below_drew' ?_ | refine Below.alloc ?_ (by simp <;> omega) _))
  case rest =>
    obtain ⟨g, rfl, HC⟩ := hcut
    rename World => wx
    have HN : madeL k = [([72, 111, 115, 116], [104])] ++ (if k / 12 % 2 = 1 then [([88, 45, 65], [98, 44, 32, 99])] else []) ++ (if k / 360 % 3 = 0 then [] else if k / 360 % 3 = 1 then [([99, 111, 110, 116, 101, 110, 116, 45, 108, 101, 110, 103, 116, 104], Lib.decDigits (madeB k).length)] else [([84, 114, 97, 110, 115, 102, 101, 114, 45, 69, 110, 99, 111, 100, 105, 110, 103], [67, 104, 117, 110, 107, 101, 100])]) := rfl
    have HNB : madeB k = if k / 360 % 3 = 0 then [] else someB.take (k / 24 % 15) := rfl
    clear lM lT t1 t1' t2 t2' t3 t3' x1 x2 w1 w2 w3 hM hT ha hq hb
    have ho := World.ownsRow_lit (base := wx.heap.size) (e := 49) (size := 2) wx #[.string ⟨#[72, 111, 115, 116]⟩, .string ⟨#[104]⟩] 1 (Nat.le_refl _) (by unfold maxLen; omega) rfl
    have b1 := (Below.refl wx.heap.size wx).alloc (Nat.le_refl _) (.cells #[.string ⟨#[72, 111, 115, 116]⟩, .string ⟨#[104]⟩] 49)
    have HA := Lib.hid (show MadeCut11b w M T g wx.heap.size [([72, 111, 115, 116], [104])] (.slice (some ⟨wx.heap.size, 0, none⟩) 1 1) (wx.alloc (.cells #[.string ⟨#[72, 111, 115, 116]⟩, .string ⟨#[104]⟩] 49)) from
      ⟨ho, HC.out.res.lt, HC.out.blk.below b1 HC.out.blk.lt, HC.out.res.below b1 HC.out.res.lt, HC.out.bel.trans (b1.mono HC.out.bel.size), HC.out.blk.lt, HC.out.far, b1.size⟩)
    clear ho b1
    obtain ⟨q12, hq12⟩ : ∃ q, k / 12 = q := ⟨_, rfl⟩
    obtain ⟨c, hc, hc2⟩ : ∃ c, q12 % 2 = c ∧ c < 2 := ⟨_, rfl, Nat.mod_lt _ (by omega)⟩
    obtain ⟨q24, hq24⟩ : ∃ q, k / 24 = q := ⟨_, rfl⟩
    obtain ⟨j, hj, hj15⟩ : ∃ j, q24 % 15 = j ∧ j < 15 := ⟨_, rfl, Nat.mod_lt _ (by omega)⟩
    obtain ⟨q360, hq360⟩ : ∃ q, k / 360 = q := ⟨_, rfl⟩
    obtain ⟨d, hd, hd3⟩ : ∃ d, q360 % 3 = d ∧ d < 3 := ⟨_, rfl, Nat.mod_lt _ (by omega)⟩
    rw [hq12, hc, hq360, hd] at HN
    rw [hq360, hd, hq24, hj] at HNB
    have t12 : (k : Int).tdiv 12 = (q12 : Int) := by rw [Int.tdiv_eq_ediv_of_nonneg (by omega)]; omega
    have t12' : (k : Int) / 12 = (q12 : Int) := by omega
    have t24 : (k : Int).tdiv 24 = (q24 : Int) := by rw [Int.tdiv_eq_ediv_of_nonneg (by omega)]; omega
    have t24' : (k : Int) / 24 = (q24 : Int) := by omega
    have t360 : (k : Int).tdiv 360 = (q360 : Int) := by rw [Int.tdiv_eq_ediv_of_nonneg (by omega)]; omega
    have t360' : (k : Int) / 360 = (q360 : Int) := by omega
    have m12 : (q12 : Int).tmod 2 = (c : Int) := by rw [Int.tmod_eq_emod_of_nonneg (by omega)]; omega
    have m12' : (q12 : Int) % 2 = (c : Int) := by omega
    have m24 : (q24 : Int).tmod 15 = (j : Int) := by rw [Int.tmod_eq_emod_of_nonneg (by omega)]; omega
    have m24' : (q24 : Int) % 15 = (j : Int) := by omega
    have m360 : (q360 : Int).tmod 3 = (d : Int) := by rw [Int.tmod_eq_emod_of_nonneg (by omega)]; omega
    have m360' : (q360 : Int) % 3 = (d : Int) := by omega
    have z12 : q12 < 2000000 := by omega
    have z24 : q24 < 1000000 := by omega
    have z360 : q360 < 100000 := by omega
    clear hq12 hq24 hq360 hc hj hd hk2 HC
    obtain ⟨l1, hl1⟩ : ∃ l1 : List Fld, [([72, 111, 115, 116], [104])] ++ (if c = 1 then [([88, 45, 65], [98, 44, 32, 99])] else []) = l1 := ⟨_, rfl⟩
    obtain ⟨B, hBB⟩ : ∃ B, wx.heap.size = B := ⟨_, rfl⟩
    rw [hl1] at HN
    rw [hBB] at HA
    have HL := Lib.hid hl1
    have w12 : IntKind.i64.wrap (q12 : Int) = (q12 : Int) := IntWalk.i64_in _ (by omega)
    clear hl1
    go_upto_region 3 with (fail)
    go_cut [7] (fun v wy => ∃ A cap, v = .slice A 1 cap ∧ Hid (MadeCut11b w M T g B [([72, 111, 115, 116], [104])] v wy))
    case first =>
      go_wp2_with fail
      go_meet
      exact ⟨_, _, rfl, HA⟩
    case rest =>
    obtain ⟨A0, cap0, rfl, HA⟩ := hcut
    clear hBB
    rename World => wy
    go_upto_if 28 with (fail)
    go_cut [7] (fun v wy => ∃ A cap, v = .slice A l1.length cap ∧ Hid (MadeCut11b w M T g B l1 v wy))
    case first =>
      by_cases hc1 : c = 1
      · subst hc1
        obtain ⟨v', w5, hrun, ho5, hb5, _⟩ := app_fld (y := ([88, 45, 65], [98, 44, 32, 99])) HA.out.own HA.out.le (by simp)
        have HRUN := Lib.hid (show (Builtin.append_ #[25, 25] 25 #[.slice A0 1 cap0, .slice (some ⟨wy.heap.size, 0, none⟩) 1 1]).run Tryz.prog (wy.alloc (.cells #[.string ⟨#[88, 45, 65]⟩, .string ⟨#[98, 44, 32, 99]⟩] 49)) = .ok v' w5 from hrun)
        have HM := Lib.hid (HA.out.more ho5 hb5)
        rw [show ([([72, 111, 115, 116], [104])] : List Fld) ++ [([88, 45, 65], [98, 44, 32, 99])] = l1 from HL.out] at HM
        obtain ⟨A', cap', rfl⟩ := own_slice HM.out.own
        have e1 : (((1 : Nat) : Int) == 1) = true := rfl
        clear hrun ho5 hb5
        go_wp2_with (at_builtin; refine wpList_append_run HRUN.out rfl _ _ rfl rfl rfl rfl ?_)
        go_meet
        exact ⟨A', cap', rfl, HM⟩
      · have hc0 : c = 0 := by omega
        subst hc0
        have HM := HA
        rw [show ([([72, 111, 115, 116], [104])] : List Fld) = l1 from HL.out] at HM
        go_wp2_with fail
        go_meet
        have hl : l1.length = 1 := by rw [← HL.out]; rfl
        exact ⟨_, _, by rw [hl], HM⟩
    case rest =>
    obtain ⟨A1, cap1, rfl, HM⟩ := hcut
    rename World => wy
    have w24 : IntKind.i64.wrap (q24 : Int) = (q24 : Int) := IntWalk.i64_in _ (by omega)
    have w360 : IntKind.i64.wrap (q360 : Int) = (q360 : Int) := IntWalk.i64_in _ (by omega)
    have hbsz : (⟨#[115, 111, 109, 101, 32, 98, 121, 116, 101, 115, 13, 10, 13, 10]⟩ : ByteArray).size = 14 := rfl
    have hex : (⟨#[115, 111, 109, 101, 32, 98, 121, 116, 101, 115, 13, 10, 13, 10]⟩ : ByteArray).extract 0 j = bs (someB.take j) := ba_ext (by rw [extract_list, bs_list]; rfl)
    have hjl : (someB.take j).length = j := by rw [List.length_take]; show min j 14 = j; omega
    have j1 : (j : Int) ≤ 14 := by omega
    have c0 : wy.cell? ⟨g, 0, none⟩ = some (.string (bs M)) := HM.out.blk.cell 0
    have c1 : wy.cell? ⟨g, 1, none⟩ = some (.string (bs T)) := HM.out.blk.cell 1
    have r0 : wy.cell? ⟨w.heap.size, 0, none⟩ = some (.string ⟨#[]⟩) := HM.out.res.cell 0
    have r1 : wy.cell? ⟨w.heap.size, 1, none⟩ = some (.string ⟨#[]⟩) := HM.out.res.cell 1
    have f0 := HM.out.res.frozen 0
    have f1 := HM.out.res.frozen 1
    have HF := Lib.hid HM.out.fin
    obtain rfl | rfl | rfl : d = 0 ∨ d = 1 ∨ d = 2 := by omega
    · rw [if_pos rfl] at HN HNB
      rw [List.append_nil] at HN
      have HNN := Lib.hid (And.intro HN HNB)
      clear HN HNB HA
      go_wp2_with fail
      refine bodyPost_ret (results_cell_row_tmq2 (p := 2) (u := 3) (v := 4) (ty := 24) (by kernel_rfl) _ _ w.heap.size 24 #[.string (bs M), .string (bs T)] (0, 0) _ rfl HF.out.1 Tryz.underlying24 rfl (by kernel_rfl)) rfl ?_
      exact ⟨A1, cap1, by rw [HNN.out.1, HNN.out.2]; rfl, by rw [HNN.out.1]; exact HF.out.2.1, HF.out.2.2⟩
    · have hbj : madeB k = someB.take j := by rw [HNB, if_neg (by decide)]
      rw [if_neg (by decide), if_pos rfl, hbj, hjl] at HN
      have lD : ∀ h : j < ([.string ⟨#[48]⟩, .string ⟨#[49]⟩, .string ⟨#[50]⟩, .string ⟨#[51]⟩, .string ⟨#[52]⟩, .string ⟨#[53]⟩, .string ⟨#[54]⟩, .string ⟨#[55]⟩, .string ⟨#[56]⟩, .string ⟨#[57]⟩, .string ⟨#[49, 48]⟩, .string ⟨#[49, 49]⟩, .string ⟨#[49, 50]⟩, .string ⟨#[49, 51]⟩, .string ⟨#[49, 52]⟩] : List Value).length, ([.string ⟨#[48]⟩, .string ⟨#[49]⟩, .string ⟨#[50]⟩, .string ⟨#[51]⟩, .string ⟨#[52]⟩, .string ⟨#[53]⟩, .string ⟨#[54]⟩, .string ⟨#[55]⟩, .string ⟨#[56]⟩, .string ⟨#[57]⟩, .string ⟨#[49, 48]⟩, .string ⟨#[49, 49]⟩, .string ⟨#[49, 50]⟩, .string ⟨#[49, 51]⟩, .string ⟨#[49, 52]⟩] : List Value)[j]'h = .string (bs (Lib.decDigits j)) := by
        intro h
        obtain rfl | rfl | rfl | rfl | rfl | rfl | rfl | rfl | rfl | rfl | rfl | rfl | rfl | rfl | rfl : j = 0 ∨ j = 1 ∨ j = 2 ∨ j = 3 ∨ j = 4 ∨ j = 5 ∨ j = 6 ∨ j = 7 ∨ j = 8 ∨ j = 9 ∨ j = 10 ∨ j = 11 ∨ j = 12 ∨ j = 13 ∨ j = 14 := by omega
        all_goals (first | rfl | kernel_rfl)
      obtain ⟨D, hD⟩ : ∃ D, Lib.decDigits j = D := ⟨_, rfl⟩
      rw [hD] at lD HN
      obtain ⟨W, hW⟩ : ∃ W, wy.alloc (.cells #[.string ⟨#[48]⟩, .string ⟨#[49]⟩, .string ⟨#[50]⟩, .string ⟨#[51]⟩, .string ⟨#[52]⟩, .string ⟨#[53]⟩, .string ⟨#[54]⟩, .string ⟨#[55]⟩, .string ⟨#[56]⟩, .string ⟨#[57]⟩, .string ⟨#[49, 48]⟩, .string ⟨#[49, 49]⟩, .string ⟨#[49, 50]⟩, .string ⟨#[49, 51]⟩, .string ⟨#[49, 52]⟩] 9) = W := ⟨_, rfl⟩
      have hWs : wy.heap.size + 1 = W.heap.size := by rw [← hW, World.size_alloc]
      have bW : Below B wy W := by rw [← hW]; exact (Below.refl _ _).alloc HM.out.le _
      have oW : W.ownsRow B 49 2 (.slice A1 l1.length cap1) l1.length (fldsC l1) := by rw [← hW]; exact own_alloc HM.out.own _
      have hl1 : l1.length ≤ 1000000 := by rw [← HL.out]; split <;> simp
      obtain ⟨v', w5, hrun, ho5, hb5, _⟩ := app_fld (y := ([99, 111, 110, 116, 101, 110, 116, 45, 108, 101, 110, 103, 116, 104], D)) oW (Nat.le_trans HM.out.le bW.size) hl1
      rw [← hWs, ← hW] at hrun
      have HRUN := Lib.hid (show (Builtin.append_ #[25, 25] 25 #[.slice A1 l1.length cap1, .slice (some ⟨wy.heap.size + 1, 0, none⟩) 1 1]).run Tryz.prog ((wy.alloc (.cells #[.string ⟨#[48]⟩, .string ⟨#[49]⟩, .string ⟨#[50]⟩, .string ⟨#[51]⟩, .string ⟨#[52]⟩, .string ⟨#[53]⟩, .string ⟨#[54]⟩, .string ⟨#[55]⟩, .string ⟨#[56]⟩, .string ⟨#[57]⟩, .string ⟨#[49, 48]⟩, .string ⟨#[49, 49]⟩, .string ⟨#[49, 50]⟩, .string ⟨#[49, 51]⟩, .string ⟨#[49, 52]⟩] 9)).alloc (.cells #[.string ⟨#[99, 111, 110, 116, 101, 110, 116, 45, 108, 101, 110, 103, 116, 104]⟩, .string (bs D)] 49)) = .ok v' w5 from hrun)
      have HM5 := HM.out.more ho5 (bW.trans hb5)
      obtain ⟨A', cap', rfl⟩ := own_slice HM5.own
      have d0 : w5.cell? ⟨g, 0, none⟩ = some (.string (bs M)) := HM5.blk.cell 0
      have d1 : w5.cell? ⟨g, 1, none⟩ = some (.string (bs T)) := HM5.blk.cell 1
      have s0 : w5.cell? ⟨w.heap.size, 0, none⟩ = some (.string ⟨#[]⟩) := HM5.res.cell 0
      have s1 : w5.cell? ⟨w.heap.size, 1, none⟩ = some (.string ⟨#[]⟩) := HM5.res.cell 1
      have g0 := HM5.res.frozen 0
      have g1 := HM5.res.frozen 1
      have HF5 := Lib.hid HM5.fin
      rw [← HN] at HF5
      have HNB' := Lib.hid hbj
      have zB := bs_size (someB.take j)
      rw [hjl] at zB
      have e1 : ((1 : Int) == 0) = false := rfl
      have j2 : (j : Int) < 15 := by omega
      have hlen : (l1 ++ [([99, 111, 110, 116, 101, 110, 116, 45, 108, 101, 110, 103, 116, 104], D)]).length = (madeL k).length := by rw [HN]
      clear hrun ho5 hb5 HN HNB HM5 HM HA HF hW hWs bW oW hbj hD hjl c0 c1 r0 r1 f0 f1
      go_wp2_with (at_builtin; refine wpList_append_run HRUN.out rfl _ _ rfl rfl rfl rfl ?_)
      refine bodyPost_ret (results_cell_row_tmq2 (p := 2) (u := 3) (v := 4) (ty := 24) (by kernel_rfl) _ _ w.heap.size 24 #[.string (bs M), .string (bs T)] (0, 0) _ rfl HF5.out.1 Tryz.underlying24 rfl (by kernel_rfl)) rfl ?_
      exact ⟨A', cap', by rw [← hlen, HNB'.out]; rfl, HF5.out.2.1, HF5.out.2.2⟩
    · have hbj : madeB k = someB.take j := by rw [HNB, if_neg (by decide)]
      rw [if_neg (by decide), if_neg (by decide)] at HN
      have hl1 : l1.length ≤ 1000000 := by rw [← HL.out]; split <;> simp
      obtain ⟨v', w5, hrun, ho5, hb5, _⟩ := app_fld (y := ([84, 114, 97, 110, 115, 102, 101, 114, 45, 69, 110, 99, 111, 100, 105, 110, 103], [67, 104, 117, 110, 107, 101, 100])) HM.out.own HM.out.le hl1
      have HRUN := Lib.hid (show (Builtin.append_ #[25, 25] 25 #[.slice A1 l1.length cap1, .slice (some ⟨wy.heap.size, 0, none⟩) 1 1]).run Tryz.prog (wy.alloc (.cells #[.string ⟨#[84, 114, 97, 110, 115, 102, 101, 114, 45, 69, 110, 99, 111, 100, 105, 110, 103]⟩, .string ⟨#[67, 104, 117, 110, 107, 101, 100]⟩] 49)) = .ok v' w5 from hrun)
      have HM5 := HM.out.more ho5 hb5
      obtain ⟨A', cap', rfl⟩ := own_slice HM5.own
      have d0 : w5.cell? ⟨g, 0, none⟩ = some (.string (bs M)) := HM5.blk.cell 0
      have d1 : w5.cell? ⟨g, 1, none⟩ = some (.string (bs T)) := HM5.blk.cell 1
      have s0 : w5.cell? ⟨w.heap.size, 0, none⟩ = some (.string ⟨#[]⟩) := HM5.res.cell 0
      have s1 : w5.cell? ⟨w.heap.size, 1, none⟩ = some (.string ⟨#[]⟩) := HM5.res.cell 1
      have g0 := HM5.res.frozen 0
      have g1 := HM5.res.frozen 1
      have HF5 := Lib.hid HM5.fin
      rw [← HN] at HF5
      have HNB' := Lib.hid hbj
      have e1 : ((2 : Int) == 0) = false := rfl
      have e2 : ((2 : Int) == 1) = false := rfl
      have hlen : (l1 ++ [([84, 114, 97, 110, 115, 102, 101, 114, 45, 69, 110, 99, 111, 100, 105, 110, 103], [67, 104, 117, 110, 107, 101, 100])]).length = (madeL k).length := by rw [HN]
      clear hrun ho5 hb5 HN HNB HM5 HM HA HF hbj hjl c0 c1 r0 r1 f0 f1
      go_wp2_with (at_builtin; refine wpList_append_run HRUN.out rfl _ _ rfl rfl rfl rfl ?_)
      refine bodyPost_ret (results_cell_row_tmq2 (p := 2) (u := 3) (v := 4) (ty := 24) (by kernel_rfl) _ _ w.heap.size 24 #[.string (bs M), .string (bs T)] (0, 0) _ rfl HF5.out.1 Tryz.underlying24 rfl (by kernel_rfl)) rfl ?_
      exact ⟨A', cap', by rw [← hlen, HNB'.out]; rfl, HF5.out.2.1, HF5.out.2.2⟩

/-- how many events tell a whole request -/
def gotN (X : List EvM) : Nat := (X.filter fun x => x.1.kind == 3).length
theorem gotN_succ (X : List EvM) (k : Nat) (hk : k < X.length) : gotN (X.take (k + 1)) = gotN (X.take k) + (if X[k].1.kind = 3 then 1 else 0) := by
  unfold gotN
  rw [List.take_succ_eq_append_getElem hk, List.filter_append, List.length_append]
  by_cases h : X[k].1.kind = 3
  · simp [h]
  · simp [h]
theorem gotN_le (X : List EvM) : gotN X ≤ X.length := List.length_filter_le _ _
set_option maxRecDepth 100000 in
set_option maxHeartbeats 4000000 in
theorem pTellW (O : Option Addr) (n oc : Nat) (X : List EvM) (w : World) (hr : Reads w w.heap.size 6 O n (evsC X)) (hn : n ≤ 1000000) (hk : ∀ x ∈ X, x.1.kind = 1 ∨ x.1.kind = 2 ∨ x.1.kind = 3) :
    Calls Tryz.prog 13 #[.slice O n oc] w fun e w' => e = .returned (.tuple #[.int .i64 (gotN X : Nat), .int .i64 0]) ∧ Below w.heap.size w w' := by
  obtain rfl := hr.elen
  have HR := Lib.hid hr
  have HK := Lib.hid hk
  clear hr hk
  go_enter Tryz.func13, Tryz.ntmps13
  go_wp2_with fail
  go_loopw [2, 3, 4, 9] (fun s z3 z4 i wr => ∃ k : Nat, i = .int .i64 k ∧ k ≤ X.length ∧ s = .int .i64 (gotN (X.take k) : Nat) ∧ z3 = .int .i64 0 ∧ z4 = .bool false ∧ Hid (Below w.heap.size w wr)) (fun _ _ _ i _ => X.length - (intOf i).toNat)
  case atStart => exact ⟨0, rfl, by omega, rfl, rfl, rfl, hide (Below.refl _ _)⟩
  case round =>
    obtain ⟨k, rfl, hk, rfl, rfl, rfl, hB⟩ := hrel
    rename World => wr
    by_cases hlt : k < X.length
    · obtain ⟨b, o, rfl, hb, q0, q1, q2, q3, q4, q5⟩ := (HR.out.below hB.out).ev k hlt
      have hkk := HK.out X[k] (List.getElem_mem hlt)
      have hsu := gotN_succ X k hlt
      have hle := gotN_le (X.take k)
      have hln : (X.take k).length = k := by rw [List.length_take]; omega
      generalize X[k].1.kind = kd at *
      generalize X[k].1.meth = e1 at *
      generalize X[k].1.tgt = e2 at *
      generalize X[k].1.body = e3 at *
      generalize X[k].1.status = e4 at *
      generalize X[k].1.flds.length = e5 at *
      generalize X[k].2.1 = e6 at *
      generalize X[k].2.2 = e7 at *
      have HS := Lib.hid hsu
      obtain ⟨G, hG⟩ : ∃ G, gotN (X.take k) = G := ⟨_, rfl⟩
      rw [hG] at HS hle ⊢
      have HB2 := Lib.hid (hB.out.alloc hB.out.size (.cells #[.int .i64 (kd : Nat), .string (bs e1), .string (bs e2), .slice e6 e5 e7, .string (bs e3), .int .i64 (e4 : Nat)] 41))
      have i0 : (0 : Int) ≤ (k : Int) := by omega
      have i1 : (k : Int) < (X.length : Int) := by omega
      clear hsu hG
      rcases hkk with rfl | rfl | rfl
      · have ea : (((1 : Nat) : Int) == 3) = false := rfl
        have eb : (((1 : Nat) : Int) == 4) = false := rfl
        go_wp2_with fail
        go_roundw
        case rel => exact ⟨k + 1, by go_num, by omega, by rw [HS.out]; rfl, rfl, rfl, HB2⟩
        case measure => simp [intOf]; omega
      · have ea : (((2 : Nat) : Int) == 3) = false := rfl
        have eb : (((2 : Nat) : Int) == 4) = false := rfl
        go_wp2_with fail
        go_roundw
        case rel => exact ⟨k + 1, by go_num, by omega, by rw [HS.out]; rfl, rfl, rfl, HB2⟩
        case measure => simp [intOf]; omega
      · have ea : (((3 : Nat) : Int) == 3) = true := rfl
        have eb : (((3 : Nat) : Int) == 4) = false := rfl
        go_wp2_with fail
        go_roundw
        case rel => exact ⟨k + 1, by go_num, by omega, by rw [HS.out]; go_num, rfl, rfl, HB2⟩
        case measure => simp [intOf]; omega
    · obtain rfl : k = X.length := by omega
      have hd : decide ((X.length : Int) < (X.length : Int)) = false := by simp
      have HTK := Lib.hid (show X.take X.length = X from List.take_length)
      go_wp2_with fail
      go_ret2
      exact ⟨by rw [HTK.out]; rfl, hB.out⟩
theorem blk_at2 {W : World} {g : Nat} {t : TypeId} {cs : Array Value} (h : g = W.heap.size) : Blk (W.alloc (.cells cs t)) g t cs := by subst h; exact Blk.new W t cs
set_option maxRecDepth 100000 in
set_option maxHeartbeats 8000000 in
theorem pSameNew (A : Option Addr) (c : Nat) (w : World) :
    Calls Tryz.prog 11 #[.agg (wireV newW A c), newV] w fun e w' => e = .returned (.bool true) ∧ Below w.heap.size w w' := by
  have hx : newV = .agg #[.int .i64 1, .string ⟨#[]⟩, .string ⟨#[]⟩, .string ⟨#[]⟩, .slice none 0 0, .string ⟨#[]⟩, .int .i64 0, .int .i64 0, .int .i64 0, .int .i64 0, .int .i64 0, .string ⟨#[]⟩, .string ⟨#[]⟩, .int .i64 0, .int .i64 0] := rfl
  have hy : wireV newW A c = #[.int .i64 1, .string ⟨#[]⟩, .string ⟨#[]⟩, .string ⟨#[]⟩, .slice A 0 c, .string ⟨#[]⟩, .int .i64 0, .int .i64 0, .int .i64 0, .int .i64 0, .int .i64 0, .string ⟨#[]⟩, .string ⟨#[]⟩, .int .i64 0, .int .i64 0] := rfl
  rw [hx, hy]
  clear hx hy
  obtain ⟨W1, hW1⟩ : ∃ W1, ((w.alloc (.cells #[.int .i64 1, .string ⟨#[]⟩, .string ⟨#[]⟩, .string ⟨#[]⟩, .slice A 0 c, .string ⟨#[]⟩, .int .i64 0, .int .i64 0, .int .i64 0, .int .i64 0, .int .i64 0, .string ⟨#[]⟩, .string ⟨#[]⟩, .int .i64 0, .int .i64 0] 34)).alloc (.cells #[.int .i64 1, .string ⟨#[]⟩, .string ⟨#[]⟩, .string ⟨#[]⟩, .slice none 0 0, .string ⟨#[]⟩, .int .i64 0, .int .i64 0, .int .i64 0, .int .i64 0, .int .i64 0, .string ⟨#[]⟩, .string ⟨#[]⟩, .int .i64 0, .int .i64 0] 34)) = W1 := ⟨_, rfl⟩
  have b1 : Below w.heap.size w W1 := by rw [← hW1]; exact ((Below.refl _ _).alloc (Nat.le_refl _) _).alloc (by simp) _
  have cF := SameFields_any A none 0 0 c 0 [] [] W1 Reads.none_ Reads.none_ (by omega) (by omega)
  rw [decide_eq_true rfl] at cF
  have CF := Lib.hid cF
  have B1 := Lib.hid b1
  have q24 : ∀ w, (binOp .eql 24 (.agg #[.string ⟨#[]⟩, .string ⟨#[]⟩]) (.agg #[.string ⟨#[]⟩, .string ⟨#[]⟩])).run Tryz.prog w = .ok (.bool true) w := fun _ => by kernel_rfl
  have q32 : ∀ w, (binOp .eql 32 (.agg #[.int .i64 0, .int .i64 0, .int .i64 0, .int .i64 0, .string ⟨#[]⟩, .string ⟨#[]⟩, .int .i64 0, .int .i64 0]) (.agg #[.int .i64 0, .int .i64 0, .int .i64 0, .int .i64 0, .string ⟨#[]⟩, .string ⟨#[]⟩, .int .i64 0, .int .i64 0])).run Tryz.prog w = .ok (.bool true) w := fun _ => by kernel_rfl
  have k0 : Blk W1 w.heap.size 34 #[.int .i64 1, .string ⟨#[]⟩, .string ⟨#[]⟩, .string ⟨#[]⟩, .slice A 0 c, .string ⟨#[]⟩, .int .i64 0, .int .i64 0, .int .i64 0, .int .i64 0, .int .i64 0, .string ⟨#[]⟩, .string ⟨#[]⟩, .int .i64 0, .int .i64 0] := by rw [← hW1]; exact (Blk.new w 34 #[.int .i64 1, .string ⟨#[]⟩, .string ⟨#[]⟩, .string ⟨#[]⟩, .slice A 0 c, .string ⟨#[]⟩, .int .i64 0, .int .i64 0, .int .i64 0, .int .i64 0, .int .i64 0, .string ⟨#[]⟩, .string ⟨#[]⟩, .int .i64 0, .int .i64 0]).alloc _
  have k1 : Blk W1 (w.heap.size + 1) 34 #[.int .i64 1, .string ⟨#[]⟩, .string ⟨#[]⟩, .string ⟨#[]⟩, .slice none 0 0, .string ⟨#[]⟩, .int .i64 0, .int .i64 0, .int .i64 0, .int .i64 0, .int .i64 0, .string ⟨#[]⟩, .string ⟨#[]⟩, .int .i64 0, .int .i64 0] := by
    rw [← hW1]; exact blk_at2 (by simp)
  have y0 : W1.cell? ⟨w.heap.size, 0, none⟩ = some (.int .i64 1) := k0.cell 0
  have y1 : W1.cell? ⟨w.heap.size, 1, none⟩ = some (.string ⟨#[]⟩) := k0.cell 1
  have y2 : W1.cell? ⟨w.heap.size, 2, none⟩ = some (.string ⟨#[]⟩) := k0.cell 2
  have y3 : W1.cell? ⟨w.heap.size, 3, none⟩ = some (.string ⟨#[]⟩) := k0.cell 3
  have y4 : W1.cell? ⟨w.heap.size, 4, none⟩ = some (.slice A 0 c) := k0.cell 4
  have y5 : W1.cell? ⟨w.heap.size, 5, none⟩ = some (.string ⟨#[]⟩) := k0.cell 5
  have y6 : W1.cell? ⟨w.heap.size, 6, none⟩ = some (.int .i64 0) := k0.cell 6
  have y7 : W1.cell? ⟨w.heap.size, 7, none⟩ = some (.int .i64 0) := k0.cell 7
  have y8 : W1.cell? ⟨w.heap.size, 8, none⟩ = some (.int .i64 0) := k0.cell 8
  have y9 : W1.cell? ⟨w.heap.size, 9, none⟩ = some (.int .i64 0) := k0.cell 9
  have y10 : W1.cell? ⟨w.heap.size, 10, none⟩ = some (.int .i64 0) := k0.cell 10
  have y11 : W1.cell? ⟨w.heap.size, 11, none⟩ = some (.string ⟨#[]⟩) := k0.cell 11
  have y12 : W1.cell? ⟨w.heap.size, 12, none⟩ = some (.string ⟨#[]⟩) := k0.cell 12
  have y13 : W1.cell? ⟨w.heap.size, 13, none⟩ = some (.int .i64 0) := k0.cell 13
  have y14 : W1.cell? ⟨w.heap.size, 14, none⟩ = some (.int .i64 0) := k0.cell 14
  have z0 : W1.cell? ⟨w.heap.size + 1, 0, none⟩ = some (.int .i64 1) := k1.cell 0
  have z1 : W1.cell? ⟨w.heap.size + 1, 1, none⟩ = some (.string ⟨#[]⟩) := k1.cell 1
  have z2 : W1.cell? ⟨w.heap.size + 1, 2, none⟩ = some (.string ⟨#[]⟩) := k1.cell 2
  have z3 : W1.cell? ⟨w.heap.size + 1, 3, none⟩ = some (.string ⟨#[]⟩) := k1.cell 3
  have z4 : W1.cell? ⟨w.heap.size + 1, 4, none⟩ = some (.slice none 0 0) := k1.cell 4
  have z5 : W1.cell? ⟨w.heap.size + 1, 5, none⟩ = some (.string ⟨#[]⟩) := k1.cell 5
  have z6 : W1.cell? ⟨w.heap.size + 1, 6, none⟩ = some (.int .i64 0) := k1.cell 6
  have z7 : W1.cell? ⟨w.heap.size + 1, 7, none⟩ = some (.int .i64 0) := k1.cell 7
  have z8 : W1.cell? ⟨w.heap.size + 1, 8, none⟩ = some (.int .i64 0) := k1.cell 8
  have z9 : W1.cell? ⟨w.heap.size + 1, 9, none⟩ = some (.int .i64 0) := k1.cell 9
  have z10 : W1.cell? ⟨w.heap.size + 1, 10, none⟩ = some (.int .i64 0) := k1.cell 10
  have z11 : W1.cell? ⟨w.heap.size + 1, 11, none⟩ = some (.string ⟨#[]⟩) := k1.cell 11
  have z12 : W1.cell? ⟨w.heap.size + 1, 12, none⟩ = some (.string ⟨#[]⟩) := k1.cell 12
  have z13 : W1.cell? ⟨w.heap.size + 1, 13, none⟩ = some (.int .i64 0) := k1.cell 13
  have z14 : W1.cell? ⟨w.heap.size + 1, 14, none⟩ = some (.int .i64 0) := k1.cell 14
  clear b1 cF k0 k1
  go_enter Tryz.func11, Tryz.ntmps11
  go_wp2_with fail
  (with_reducible refine (CF.out).mono ?_); rintro e w2 ⟨rfl, m, rfl⟩
  go_wp2_with fail
  go_ret
  exact ⟨rfl, below_drewN B1.out m⟩

def smallK (k : Nat) : Bool := decide ((madeM k).length ≤ 100) && decide ((madeT k).length ≤ 100) && decide ((madeB k).length ≤ 100) && decide ((madeL k).length ≤ 10) && (madeL k).all (fun f => decide (f.1.length ≤ 100) && decide (f.2.length ≤ 100)) && decide ((textW k).length ≤ 1000)
theorem small_all : ∀ k : Fin 1080, smallK k.val = true := by decide +kernel
theorem small_one (k : Nat) : (madeM k).length ≤ 100 ∧ (madeT k).length ≤ 100 ∧ (madeB k).length ≤ 100 ∧ (madeL k).length ≤ 10 ∧ (∀ f ∈ madeL k, f.1.length ≤ 100 ∧ f.2.length ≤ 100) ∧ (textW k).length ≤ 1000 := by
  have h := small_all ⟨k % 1080, Nat.mod_lt _ (by omega)⟩
  unfold smallK at h
  obtain ⟨h1, h2, h3, h4, h5⟩ := made_mod k
  simp only at h
  rw [h1, h2, h3, h4, (text_mod k).1] at h
  simp only [Bool.and_eq_true, decide_eq_true_eq, List.all_eq_true] at h
  obtain ⟨⟨⟨⟨⟨a, b⟩, c⟩, d⟩, e⟩, f⟩ := h
  exact ⟨a, b, c, d, e, f⟩
theorem texts_len : ∀ ks : List Nat, (ks.flatMap textW).length ≤ ks.length * 1000
  | [] => by simp
  | k :: ks => by
    have := texts_len ks
    have := (small_one k).2.2.2.2.2
    simp only [List.flatMap_cons, List.length_append, List.length_cons, Nat.add_mul, Nat.one_mul]
    omega
theorem events_len : ∀ ks : List Nat, (ks.flatMap eventsW).length = 3 * ks.length
  | [] => rfl
  | k :: ks => by
    have := events_len ks
    rw [List.flatMap_cons, List.length_append, this, List.length_cons]
    show 3 + _ = _
    omega
theorem events_kind (ks : List Nat) : ∀ e ∈ ks.flatMap eventsW, e.kind = 1 ∨ e.kind = 2 ∨ e.kind = 3 := by
  intro e he
  obtain ⟨k, _, hk⟩ := List.mem_flatMap.1 he
  unfold eventsW at hk
  simp only [List.mem_cons, List.not_mem_nil, or_false] at hk
  rcases hk with rfl | rfl | rfl
  · exact .inl rfl
  · exact .inr (.inl rfl)
  · exact .inr (.inr rfl)
theorem events_got : ∀ ks : List Nat, ((ks.flatMap eventsW).filter fun x => x.kind == 3).length = ks.length
  | [] => rfl
  | k :: ks => by
    have := events_got ks
    rw [List.flatMap_cons, List.filter_append, List.length_append, this, List.length_cons]
    show 1 + _ = _
    omega
theorem events_at : ∀ (ks : List Nat) (i j : Nat) (hi : i < ks.length) (_ : j < 3), (ks.flatMap eventsW)[3 * i + j]? = (eventsW ks[i])[j]?
  | [], _, _, hi, _ => by simp at hi
  | k :: ks, i, j, hi, hj => by
    rw [List.flatMap_cons]
    cases i with
    | zero => rw [List.getElem?_append_left (by show 3 * 0 + j < 3; omega)]; simp
    | succ i =>
      rw [List.getElem?_append_right (by show 3 ≤ 3 * (i + 1) + j; omega)]
      have h2 := events_at ks i j (by simpa using hi) hj
      rw [show 3 * (i + 1) + j - (eventsW k).length = 3 * i + j by show 3 * (i + 1) + j - 3 = _; omega, h2]
      simp
theorem gotN_map (X : List EvM) (evs : List EvP) (h : X.map (·.1) = evs) : gotN X = (evs.filter fun x => x.kind == 3).length := by
  unfold gotN
  rw [← h, List.filter_map, List.length_map]
  rfl
theorem bs_cat3 (l m : List UInt8) : bs l ++ bs m = bs (l ++ m) := by
  apply ba_ext
  rw [append_toList, bs_list, bs_list, bs_list]
theorem take_flat (ks : List Nat) (k : Nat) (hk : k < ks.length) : (ks.take (k + 1)).flatMap textW = (ks.take k).flatMap textW ++ textW ks[k] := by
  rw [List.take_succ_eq_append_getElem hk, List.flatMap_append]
  simp
theorem inReqL (a b c d : ByteArray) (w : World) : (Op.equalIn 10000 24 (.agg #[.string a, .string b]) (.agg #[.string c, .string d])).run Tryz.prog w = .ok (a.toList == c.toList && b.toList == d.toList) w := by
  have u1 := Tryz.underlying9
  have u2 := Tryz.isAgg9
  have z3 := Tryz.sizeOf9
  have f0 := Tryz.underlying24
  have f1 : Tryz.prog.underlying 24 = some (.struct (Tryz.prog.fieldsOf 24)) := by unfold Program.fieldsOf; rw [f0]
  rw [show (10000 : Nat) = 9999 + 1 from rfl, run_equalIn_struct _ _ _ _ _ f1 (by kernel_rfl)]
  unfold Program.fieldsOf
  rw [f0]
  go_simp
  by_cases h0 : a.toList = c.toList <;> by_cases h1 : b.toList = d.toList <;> simp [h0, h1]
/-- a request line is the same as itself -/
theorem neReqL (a b : ByteArray) (w : World) : (binOp .neq 24 (.agg #[.string a, .string b]) (.agg #[.string a, .string b])).run Tryz.prog w = .ok (.bool false) w := by
  rw [run_neq_struct, inReqL]; simp
end Go.Proofs.YtencphfhpnljlaaGreatDoor
