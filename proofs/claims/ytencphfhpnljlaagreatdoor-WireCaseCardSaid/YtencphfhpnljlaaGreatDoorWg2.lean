/-
  The reference of chunked bodies: a digit. strconv.ParseUint of one byte, base 16, 8 bits, and chunked.value. The decoder that is fed: what a byte does to it.
-/
import Derived.Test.YtencphfhpnljlaaGreatDoorProg
import Derived.Test.YtencphfhpnljlaaGreatDoorWa
import Derived.Test.YtencphfhpnljlaaGreatDoorWf
import Derived.Test.YtencphfhpnljlaaGreatDoorShelf
import Derived.Test.YtencphfhpnljlaaGreatDoorShelfE
import Derived.Lib.Strings
import Derived.Lib.Walk
import Derived.Lib.ConvBytes
import Derived.Lib.ParseIntBMem
import Derived.Lib.AtoiErrMem
import Derived.Laws.Strings3
import Derived.Laws.Closers25
import Derived.Laws.Closers25b
import Derived.Test.YtencphfhpnljlaaGreatDoorWg1
namespace Go.Proofs.YtencphfhpnljlaaGreatDoor

section
open Go.RowKit

/-- a digit's value, or -1 -/
def digI (b : UInt8) : Int := match hexV b with
  | some v => (v : Int)
  | none => -1
end

section
open Go.RowKit

theorem puLower (c : Int) (w : World) : Calls Tryz.prog 191 #[.int .u8 c] w fun e w' => e = .returned (.int .u8 (bits .or .u8 c 32)) ∧ w' = w := by
  go_enter Tryz.func191, Tryz.ntmps191
  go_wp2
  go_ret
  exact ⟨rfl, rfl⟩
theorem or32 : ∀ n : Fin 256, (48 ≤ n.val ∧ n.val ≤ 57) ∨ ((97 ≤ n.val ∧ n.val ≤ 122) ∧ bits .or .u8 (n.val : Int) 32 = n.val) ∨ ((65 ≤ n.val ∧ n.val ≤ 90) ∧ bits .or .u8 (n.val : Int) 32 = n.val + 32) ∨ ((bits .or .u8 (n.val : Int) 32 < 97 ∨ 122 < bits .or .u8 (n.val : Int) 32) ∧ (n.val < 48 ∨ 57 < n.val) ∧ (n.val < 97 ∨ 122 < n.val) ∧ (n.val < 65 ∨ 90 < n.val)) := by decide +kernel
/-- what strconv.ParseUint gives of one byte -/
def puV (b : UInt8) (er : Value) : Value := match hexV b with
  | some v => .tuple #[.int .u64 v, .nilIface]
  | none => .tuple #[.int .u64 0, er]
theorem digI_of (b : UInt8) (n : Nat) (hn : b.toNat = n) : digI b = if 48 ≤ n ∧ n ≤ 57 then (n : Int) - 48 else if 97 ≤ n ∧ n ≤ 102 then (n : Int) - 87 else if 65 ≤ n ∧ n ≤ 70 then (n : Int) - 55 else -1 := by
  unfold digI hexV
  rw [hn]
  split
  · rename_i v h
    split at h
    · rename_i hc; injection h with h; rw [if_pos hc]; omega
    · rename_i hc; rw [if_neg hc]
      split at h
      · rename_i hc; injection h with h; rw [if_pos hc]; omega
      · rename_i hc; rw [if_neg hc]
        split at h
        · rename_i hc; injection h with h; rw [if_pos hc]; omega
        · cases h
  · rename_i h
    split at h
    · cases h
    · rename_i hc; rw [if_neg hc]
      split at h
      · cases h
      · rename_i hc; rw [if_neg hc]
        split at h
        · cases h
        · rename_i hc; rw [if_neg hc]
set_option maxHeartbeats 32000000 in
set_option maxRecDepth 100000 in
theorem puHex (x : UInt8) (w : World) (hs : 0 ≤ digI x) : Calls Tryz.prog 177 #[.string ⟨#[x]⟩, .int .i64 16, .int .i64 8] w fun e w' => e = .returned (.tuple #[.int .u64 (digI x), .nilIface]) ∧ Below w.heap.size w w' := by
  obtain ⟨n, hn⟩ : ∃ n, x.toNat = n := ⟨_, rfl⟩
  have hlt : n < 256 := by rw [← hn]; exact x.toNat_lt
  have hor := or32 ⟨n, hlt⟩
  simp only at hor
  have hv0 := bits_lo_u8 .or (n : Int) 32
  have hv1 := bits_hi_u8 .or (n : Int) 32
  have hu0 := bits_lo_u8 .or 95 32
  have hu1 := bits_hi_u8 .or 95 32
  have hD := digI_of x n hn
  generalize digI x = D at hD hs ⊢
  have hcv := Lib.run_convert_string_bytes (P := Tryz.prog) w 9 50 5 ⟨#[x]⟩ (u := .string) Tryz.underlying9 Tryz.underlying50 Tryz.underlying5
  have hB : (Lib.bytesWorld w 5 ⟨#[x]⟩).cell? ⟨w.heap.size, 0, none⟩ = some (.int .u8 (n : Int)) := by
    have h := Lib.bytesWorld_cell w 5 ⟨#[x]⟩ 0 (by show 0 < 1; omega)
    rw [h, ← hn]; rfl
  have hbw := Lib.bytesWorld_below w 5 ⟨#[x]⟩
  obtain ⟨W1, hW1⟩ : ∃ W1, W1 = Lib.bytesWorld w 5 ⟨#[x]⟩ := ⟨_, rfl⟩
  rw [← hW1] at hcv hB hbw
  clear hW1
  have hsz : (⟨#[x]⟩ : ByteArray).size = 1 := rfl
  rw [hsz] at hcv
  have hemp : (⟨#[x]⟩ : ByteArray).toList.isEmpty = false := by rw [Lib.toList_data]; rfl
  have hmv : IntKind.u64.wrap (IntKind.u64.wrap 256 - 1) = 255 := by
    rw [IntKind.wrap_u64, IntKind.wrap_u64]
    decide
  have CL := fun c w => puLower c w
  obtain ⟨s, hs2⟩ : ∃ s, (⟨#[x]⟩ : ByteArray) = s := ⟨_, rfl⟩
  rw [hs2] at hcv hemp ⊢
  clear hs2 hsz
  have HBW := Lib.hid hbw
  clear hbw
  generalize hY : bits .or .u8 (n : Int) 32 = Y at *
  have cls : ((48 ≤ (n : Int) ∧ (n : Int) ≤ 57) ∧ D = (n : Int) - 48) ∨ (((n : Int) < 48 ∨ 57 < (n : Int)) ∧ ¬ (n : Int) = 95 ∧ (97 ≤ Y ∧ Y ≤ 102) ∧ D = Y - 97 + 10) := by
    split at hD
    · left; omega
    · right
      split at hD
      · omega
      · split at hD
        · omega
        · omega
  clear hD hor hn
  go_enter Tryz.func177, Tryz.ntmps177
  go_wp2_with fail
  go_loop [12, 13, 101] (fun vu vn vi => ∃ (k : Nat), vu = .bool false ∧ vi = .int .i64 k ∧ k ≤ 1 ∧ ((k = 0 ∧ vn = .int .u64 0) ∨ (k = 1 ∧ vn = .int .u64 D)))
    (fun _ _ vi => 1 - (intOf vi).toNat)
  case atStart => exact ⟨0, rfl, rfl, by omega, .inl ⟨rfl, rfl⟩⟩
  case round =>
    obtain ⟨k, rfl, rfl, hk, hh⟩ := hrel
    rcases hh with ⟨rfl, rfl⟩ | ⟨rfl, rfl⟩
    · clear hk
      rcases cls with ⟨⟨h1, h2⟩, rfl⟩ | ⟨h1, h2, ⟨h3, h4⟩, rfl⟩
      · clear hv0 hv1 hY
        go_wp2
        refine ⟨⟨1, rfl, rfl, by omega, .inr ⟨rfl, by first | rfl | (congr 1; omega)⟩⟩, by simp [intOf]⟩
      · have e95 : ((n : Int) == 95) = false := by rw [beq_eq_false_iff_ne]; exact h2
        rcases h1 with h1 | h1
        all_goals (
          go_wp2_with (go_at_call 191; refine (CL _ _).mono ?_; rintro e w' ⟨rfl, rfl⟩)
          exact ⟨⟨1, rfl, rfl, by omega, .inr ⟨rfl, rfl⟩⟩, by simp [intOf]⟩)
    · clear hB cls hk hv0 hv1
      go_wp2
      go_ret2
      exact ⟨rfl, HBW.out⟩
set_option maxHeartbeats 32000000 in
set_option maxRecDepth 100000 in
theorem puNot (x : UInt8) (w : World) (hs : digI x < 0) : Calls Tryz.prog 177 #[.string ⟨#[x]⟩, .int .i64 16, .int .i64 8] w fun e w' => e = .returned (.tuple #[.int .u64 0, .iface 218 (.int .i64 2)]) ∧ Below w.heap.size w w' := by
  obtain ⟨n, hn⟩ : ∃ n, x.toNat = n := ⟨_, rfl⟩
  have hlt : n < 256 := by rw [← hn]; exact x.toNat_lt
  have hor := or32 ⟨n, hlt⟩
  simp only at hor
  have hv0 := bits_lo_u8 .or (n : Int) 32
  have hv1 := bits_hi_u8 .or (n : Int) 32
  have hu0 := bits_lo_u8 .or 95 32
  have hu1 := bits_hi_u8 .or 95 32
  have hD := digI_of x n hn
  generalize digI x = D at hD hs ⊢
  have hcv := Lib.run_convert_string_bytes (P := Tryz.prog) w 9 50 5 ⟨#[x]⟩ (u := .string) Tryz.underlying9 Tryz.underlying50 Tryz.underlying5
  have hB : (Lib.bytesWorld w 5 ⟨#[x]⟩).cell? ⟨w.heap.size, 0, none⟩ = some (.int .u8 (n : Int)) := by
    have h := Lib.bytesWorld_cell w 5 ⟨#[x]⟩ 0 (by show 0 < 1; omega)
    rw [h, ← hn]; rfl
  have hbw := Lib.bytesWorld_below w 5 ⟨#[x]⟩
  obtain ⟨W1, hW1⟩ : ∃ W1, W1 = Lib.bytesWorld w 5 ⟨#[x]⟩ := ⟨_, rfl⟩
  rw [← hW1] at hcv hB hbw
  clear hW1
  have hsz : (⟨#[x]⟩ : ByteArray).size = 1 := rfl
  rw [hsz] at hcv
  have hemp : (⟨#[x]⟩ : ByteArray).toList.isEmpty = false := by rw [Lib.toList_data]; rfl
  have hmv : IntKind.u64.wrap (IntKind.u64.wrap 256 - 1) = 255 := by
    rw [IntKind.wrap_u64, IntKind.wrap_u64]
    decide
  have CL := fun c w => puLower c w
  obtain ⟨s, hs2⟩ : ∃ s, (⟨#[x]⟩ : ByteArray) = s := ⟨_, rfl⟩
  rw [hs2] at hcv hemp ⊢
  clear hs2 hsz
  have HBW := Lib.hid hbw
  clear hbw
  generalize hY : bits .or .u8 (n : Int) 32 = Y at *
  have cls : ((n : Int) < 48 ∨ 57 < (n : Int)) ∧ ((Y < 97 ∨ 122 < Y) ∨ (103 ≤ Y ∧ Y ≤ 122 ∧ ¬ (n : Int) = 95)) := by
    split at hD
    · omega
    · split at hD
      · omega
      · split at hD
        · omega
        · omega
  clear hD hor hn hs
  go_enter Tryz.func177, Tryz.ntmps177
  go_wp2_with fail
  go_loop [12, 13, 101] (fun vu vn vi => vu = .bool false ∧ vi = .int .i64 0 ∧ vn = .int .u64 0) (fun _ _ vi => 1 - (intOf vi).toNat)
  case atStart => exact ⟨rfl, rfl, rfl⟩
  case round =>
    obtain ⟨rfl, rfl, rfl⟩ := hrel
    obtain ⟨h0, h1⟩ := cls
    rcases h1 with h1 | ⟨h1, h2, h3⟩
    · rcases h0 with h0 | h0
      all_goals (
        rcases h1 with h1 | h1
        all_goals (
          go_wp2_with (go_at_call 191; refine (CL _ _).mono ?_; rintro e w' ⟨rfl, rfl⟩)
          all_goals go_ret2
          all_goals exact ⟨rfl, HBW.out⟩))
    · have e95 : ((n : Int) == 95) = false := by rw [beq_eq_false_iff_ne]; exact h3
      rcases h0 with h0 | h0
      all_goals (
        go_wp2_with (go_at_call 191; refine (CL _ _).mono ?_; rintro e w' ⟨rfl, rfl⟩)
        all_goals go_ret2
        all_goals exact ⟨rfl, HBW.out⟩)
set_option maxHeartbeats 8000000 in
set_option maxRecDepth 100000 in
theorem puPub (x : UInt8) (w : World) (te : TypeId) (pe : Value) (hv : w.cell? ⟨4, 0, none⟩ = some (.iface te pe)) : Calls Tryz.prog 199 #[.string ⟨#[x]⟩, .int .i64 16, .int .i64 8] w fun e w' => (if 0 ≤ digI x then e = .returned (.tuple #[.int .u64 (digI x), .nilIface]) else ∃ N : Nat, e = .returned (.tuple #[.int .u64 0, .iface 221 (.pointer (some ⟨N, 0, none⟩))])) ∧ Below w.heap.size w w' := by
  by_cases hs : 0 ≤ digI x
  · simp only [if_pos hs]
    have C := Lib.hid (puHex x w hs)
    clear hv
    go_enter Tryz.func199, Tryz.ntmps199
    go_wp2_with fail
    (with_reducible refine (C.out).mono ?_); rintro e w1 ⟨rfl, g1⟩
    go_wp2_with fail
    go_ret2
    exact ⟨rfl, g1⟩
  · simp only [if_neg hs]
    have C := Lib.hid (puNot x w (by omega))
    have hG : 4 < w.heap.size := Lib.lt_of_cell hv
    have hv' : ∀ w1, Below w.heap.size w w1 → w1.cell? ⟨4, 0, none⟩ = some (.iface te pe) := fun w1 g => (g.cell hG).trans hv
    have CT := fun (s : ByteArray) (hs : s.size ≤ 281474976710656) w1 g => Tryz.strconv_toError_syntax ⟨#[80, 97, 114, 115, 101, 85, 105, 110, 116]⟩ s 16 8 (.iface te pe) w1 hs (hv' w1 g) (.inr ⟨te, pe, rfl⟩)
    have HT := Lib.hid CT
    clear CT hv' hv hG
    go_enter Tryz.func199, Tryz.ntmps199
    go_wp2_with fail
    (with_reducible refine (C.out).mono ?_); rintro e w1 ⟨rfl, g1⟩
    have CT := Lib.hid (HT.out ⟨#[x]⟩ (by show 1 ≤ _; omega) w1 g1)
    go_wp2_with fail
    (with_reducible refine (CT.out).mono ?_); rintro e w2 ⟨N, rfl, -, -, g2⟩
    go_wp2_with fail
    go_ret2
    exact ⟨⟨N, rfl⟩, g1.trans (g2.mono g1.size)⟩
set_option maxHeartbeats 8000000 in
set_option maxRecDepth 100000 in
theorem mValue (x : UInt8) (w : World) (te : TypeId) (pe : Value) (hv : w.cell? ⟨4, 0, none⟩ = some (.iface te pe)) : Calls Tryz.prog 185 #[.int .u8 (x.toNat : Int)] w fun e w' => e = .returned (.int .i64 (digI x)) ∧ Below w.heap.size w w' := by
  have hcv : ∀ (q : World) (cap : Nat), q.cell? ⟨w.heap.size, 0, none⟩ = some (.int .u8 (x.toNat : Int)) → (convert 50 9 (.slice (some ⟨w.heap.size, 0, none⟩) 1 cap)).run Tryz.prog q = .ok (.string ⟨#[x]⟩) q := fun q cap hq => run_convert_bytes_back (P := Tryz.prog) q 50 9 5 ⟨w.heap.size, 0, none⟩ cap [x] Tryz.underlying50 Tryz.underlying5 Tryz.underlying9 (fun j hj => by
    have : j = 0 := by simpa using hj
    subst this
    exact hq)
  have g0 := (Below.refl w.heap.size w).alloc (Nat.le_refl _) (.cells #[.int .u8 (x.toNat : Int)] 5)
  have hG : 4 < w.heap.size := Lib.lt_of_cell hv
  have hC := puPub x (w.alloc (.cells #[.int .u8 (x.toNat : Int)] 5)) te pe ((g0.cell hG).trans hv)
  have HC := Lib.hid hC
  have G0 := Lib.hid g0
  have hn43 : 0 ≤ digI x → ¬ x.toNat = 43 ∧ ¬ x.toNat = 95 ∧ digI x < 16 := by
    intro h
    have hD := digI_of x _ rfl
    split at hD
    · omega
    · split at hD
      · omega
      · split at hD <;> omega
  have hlo : -1 ≤ digI x := by
    have hD := digI_of x _ rfl
    split at hD
    · omega
    · split at hD
      · omega
      · split at hD <;> omega
  clear hC g0 hv hG
  by_cases hs : 0 ≤ digI x
  · simp only [if_pos hs] at HC
    obtain ⟨n1, n2, n3⟩ := hn43 hs
    have e1 : ((x.toNat : Int) == 43) = false := by rw [beq_eq_false_iff_ne]; omega
    have e2 : ((x.toNat : Int) == 95) = false := by rw [beq_eq_false_iff_ne]; omega
    generalize digI x = D at *
    generalize (x.toNat : Int) = X at *
    go_enter Tryz.func185, Tryz.ntmps185
    go_wp2_with fail
    (with_reducible refine (HC.out).mono ?_); rintro e w1 ⟨rfl, g1⟩
    go_wp2_with fail
    go_ret
    exact ⟨rfl, G0.out.trans (g1.mono G0.out.size)⟩
  · simp only [if_neg hs] at HC
    have hm : digI x = -1 := by omega
    rw [hm]
    clear hn43 hlo hm hs
    generalize (x.toNat : Int) = X at *
    go_enter Tryz.func185, Tryz.ntmps185
    go_wp2_with fail
    (with_reducible refine (HC.out).mono ?_); rintro e w1 ⟨⟨N, rfl⟩, g1⟩
    go_wp2_with fail
    go_ret
    exact ⟨rfl, G0.out.trans (g1.mono G0.out.size)⟩
end

section
open Go.RowKit

/-- a decoder that is fed, in a world -/
structure MS (B0 : Nat) (W0 : World) (g : Nat) (c : Ck) (w : World) : Prop where
  blk : ∃ K v, Blk w g 185 (mC c.st c.size c.digits c.left K (bs c.line) c.lines c.status v) ∧ BytesAt w v c.body ∧ (∀ k, v.ownBlock = some k → B0 ≤ k)
  base : B0 ≤ g
  below : Below B0 W0 w
/-- what takes a byte in a state -/
def mF : Nat → Nat
  | 0 => 166
  | 1 => 167
  | 2 => 168
  | 3 => 169
  | 4 => 170
  | 5 => 171
  | _ => 172
/-- the maps of a world stand in another -/
def MapsKept (w w' : World) : Prop := ∀ (b : Nat) (es : Array MapEntry) (q : Nat), w.heap[b]? = some (.map es q) → w'.heap[b]? = some (.map es q)
theorem MapsKept.grown {w w' : World} {row : Option Nat} (hg : w.grownBy w' row) (hr : ∀ k, row = some k → ∃ cs T fz, w.heap[k]? = some (.cells cs T fz)) : MapsKept w w' := by
  intro b es q h
  rw [hg.block b (Array.getElem?_eq_some_iff.1 h).1 (fun e => by
    obtain ⟨cs, T, fz, hk⟩ := hr b e.symm
    rw [hk] at h; cases h)]
  exact h
theorem MapsKept.trans {w w1 w2 : World} (h : MapsKept w w1) (k : MapsKept w1 w2) : MapsKept w w2 := fun b es q hb => k b es q (h b es q hb)
theorem BytesAt.kind {w : World} {v : Value} {xs : List UInt8} (h : BytesAt w v xs) : ∀ k, v.ownBlock = some k → ∃ cs T fz, w.heap[k]? = some (.cells cs T fz) := by
  obtain ⟨g, cap, cur, fz, rfl, hg, _⟩ := h
  intro k hk
  simp [Value.ownBlock] at hk
  subst hk
  exact ⟨_, _, _, hg⟩
theorem ms_post {B0 : Nat} {W0 w w' : World} {g : Nat} {c' : Ck} {e : Ending} {K : ByteArray} {v : Value} {cs cs0 : Array Value} (hB : Blk w g 185 cs0) (hBy : BytesAt w v c'.body) (hk : ∀ k, v.ownBlock = some k → B0 ≤ k) (hb : B0 ≤ g) (hbel : Below B0 W0 w)
    (hP : McPost g cs w e w') (hcs : cs = mC c'.st c'.size c'.digits c'.left K (bs c'.line) c'.lines c'.status v) : e = .returned (.tuple #[]) ∧ MS B0 W0 g c' w' ∧ MapsKept w w' := by
  obtain ⟨he, h1, h2⟩ := hP
  have hne := hBy.ne hB (by decide)
  subst hcs
  exact ⟨he, ⟨⟨K, v, h1, hBy.kept h2 hne, hk⟩, hb, hbel.grown h2 (by have := hB.lt; omega) (fun k hk => by injection hk with hk; omega)⟩, .grown h2 (fun k hk => by injection hk with hk; subst hk; exact ⟨_, _, _, hB⟩)⟩
theorem bs_nil : bs [] = ⟨#[]⟩ := rfl
theorem bs_snoc (l : List UInt8) (b : UInt8) : bs l ++ ⟨#[b]⟩ = bs (l ++ [b]) := by
  apply ba_ext
  show (bs l ++ ⟨#[b]⟩ : ByteArray).data.toList = l ++ [b]
  rw [ByteArray.data_append, Array.toList_append]; rfl
theorem u8_is (b : UInt8) (n : Nat) (hn : n < 256) : ((b.toNat : Int) = (n : Int)) ↔ b = UInt8.ofNat n := by
  constructor
  · intro h
    apply UInt8.toNat_inj.1
    rw [UInt8.toNat_ofNat']
    have : b.toNat = n := by omega
    rw [this, Nat.mod_eq_of_lt (by simpa using hn)]
  · intro h
    rw [h, UInt8.toNat_ofNat', Nat.mod_eq_of_lt (by simpa using hn)]
theorem size_ok {c : Ck} (h : OkC c) : c.size < 4294967296 := by
  have h1 := h.size
  have h2 : 16 ^ c.digits ≤ 16 ^ 8 := Nat.pow_le_pow_right (by omega) h.digits
  omega
set_option maxHeartbeats 4000000 in
theorem mStep {B0 : Nat} {W0 w : World} {g : Nat} {c : Ck} (hc : OkC c) (ho : overC c = false) (h : MS B0 W0 g c w) (te : TypeId) (pe : Value) (hv : W0.cell? ⟨4, 0, none⟩ = some (.iface te pe)) (h0 : 4 < B0) (b : UInt8) :
    Calls Tryz.prog (mF c.st) #[.pointer (some ⟨g, 0, none⟩), .int .u8 (b.toNat : Int)] w fun e w' => e = .returned (.tuple #[]) ∧ MS B0 W0 g (stepC c b) w' ∧ MapsKept w w' := by
  obtain ⟨⟨K, v, hB, hBy, hk⟩, hb, hbel⟩ := h
  have h13 : ((b.toNat : Int) = 13) ↔ b = 13 := u8_is b 13 (by omega)
  have h10 : ((b.toNat : Int) = 10) ↔ b = 10 := u8_is b 10 (by omega)
  have hst := hc.st
  have hsz := size_ok hc
  have hdg := hc.digits
  have hbd := hc.body
  have hln := hc.len
  have hmx := hc.max
  obtain ⟨st, size, digits, left, body, line, lines, status⟩ := c
  simp only at *
  have hno : st ≠ 7 ∧ st ≠ 8 := by simpa [overC] using ho
  have hcase : st = 0 ∨ st = 1 ∨ st = 2 ∨ st = 3 ∨ st = 4 ∨ st = 5 ∨ st = 6 := by omega
  have P : ∀ {cs : Array Value} (c' : Ck) (K' : ByteArray), c'.body = body → cs = mC c'.st c'.size c'.digits c'.left K' (bs c'.line) c'.lines c'.status v → ∀ e w', McPost g cs w e w' → e = .returned (.tuple #[]) ∧ MS B0 W0 g c' w' ∧ MapsKept w w' := fun c' K' hbo hcs e w' hP => ms_post hB (by rw [hbo]; exact hBy) hk hb hbel hP hcs
  rcases hcase with rfl | rfl | rfl | rfl | rfl | rfl | rfl
  · have hV := mValue b w te pe ((hbel.cell h0).trans hv)
    have hd : -1 ≤ digI b ∧ digI b ≤ 15 := by
      unfold digI
      split
      · rename_i v hv; have := hexV_lt hv; omega
      · omega
    refine (mSize0 (digI b) 0 left size digits K (bs line) lines status b v hd hsz hdg g w hB hV).mono fun e w' hP => ?_
    unfold stepC
    simp only [if_pos]
    unfold digI at hP
    cases hx : hexV b with
    | some d =>
      rw [hx] at hP
      simp only at hP ⊢
      have hd16 := hexV_lt hx
      have h13' : ¬ b = 13 := fun e => by rw [e, show hexV 13 = none from rfl] at hx; cases hx
      by_cases h8 : digits < 8
      · rw [if_pos ⟨by omega, h8⟩] at hP
        rw [if_pos h8]
        exact P ⟨0, 16 * size + d, digits + 1, left, body, line, lines, status⟩ K rfl (by simp) e w' hP
      · rw [if_neg (fun h => h8 h.2), if_neg (fun h => h13' h.1)] at hP
        rw [if_neg h8]
        exact P (badC _ 400) ⟨#[]⟩ rfl rfl e w' hP
    | none =>
      rw [hx] at hP
      simp only at hP ⊢
      rw [if_neg (fun h => by omega)] at hP
      by_cases hq : b = 13 ∧ 0 < digits
      · rw [if_pos hq] at hP ⊢
        exact P ⟨1, size, digits, left, body, line, lines, status⟩ K rfl rfl e w' hP
      · rw [if_neg hq] at hP ⊢
        exact P (badC _ 400) ⟨#[]⟩ rfl rfl e w' hP
  · obtain ⟨g6, cap6, rfl⟩ := hBy.shape
    have hl0 : lines = 0 := by have := hc.lines; simp at this; omega
    subst hl0
    refine (mSized 1 digits left size K (bs line) (0 : Nat) status (b.toNat : Int) (some ⟨g6, 0, none⟩) body.length cap6 (by omega) hsz g w hB).mono fun e w' hP => ?_
    have E : stepC ⟨1, size, digits, left, body, line, 0, status⟩ b = if b ≠ 10 then badC ⟨1, size, digits, left, body, line, 0, status⟩ 400 else if size = 0 then ⟨5, 0, 0, 0, body, [], 0, 0⟩ else if 2048 < body.length + size then badC ⟨1, size, digits, left, body, line, 0, status⟩ 413 else ⟨2, 0, 0, size, body, [], 0, 0⟩ := by simp [stepC]
    rw [E]
    by_cases q1 : b = 10
    · rw [if_neg (fun h => h (h10.2 q1))] at hP
      rw [if_neg (fun h => h q1)]
      by_cases q2 : size = 0
      · rw [if_pos q2] at hP ⊢
        exact P ⟨5, 0, 0, 0, body, [], 0, 0⟩ ⟨#[]⟩ rfl rfl e w' hP
      · rw [if_neg q2] at hP ⊢
        by_cases q3 : 2048 < body.length + size
        · rw [if_pos q3] at hP ⊢
          exact P (badC _ 413) ⟨#[]⟩ rfl rfl e w' hP
        · rw [if_neg q3] at hP ⊢
          exact P ⟨2, 0, 0, size, body, [], 0, 0⟩ ⟨#[]⟩ rfl rfl e w' hP
    · rw [if_pos (fun h => q1 (h10.1 h))] at hP
      rw [if_pos q1]
      exact P (badC _ 400) ⟨#[]⟩ rfl rfl e w' hP
  · have hl0 : lines = 0 := by have := hc.lines; simp at this; omega
    have hz0 : size = 0 ∧ digits = 0 := by have := hc.sized; simp at this; omega
    have hle : 0 < left := by have := hc.left; simpa using this
    have hli : line = [] := by have := hc.line; simpa using this
    have hsa : status = 0 := by have := hc.bad; simp at this; omega
    obtain ⟨rfl, rfl⟩ := hz0
    subst hl0 hli hsa
    refine (mData 2 (0 : Nat) (0 : Nat) left K (bs []) (0 : Nat) (0 : Nat) b v body hle (by omega) (by omega) g w hB hBy).mono fun e w' ⟨he, v', w5, hA, hB', hG, hR, hK⟩ => ?_
    have hne := hBy.ne hB (by decide)
    have hl5 : w.heap.size ≤ w5.heap.size := hG.size
    have hk' : ∀ k, v'.ownBlock = some k → B0 ≤ k := fun k h => by
      rcases hK k h with h | h
      · exact hk k h
      · have := hB.lt; omega
    have hbel5 : Below B0 W0 w5 := hbel.grown hG (by have := hB.lt; omega) hk
    refine ⟨he, ⟨?_, hb, hbel5.grown hR (by have := hB.lt; omega) (fun k hk => by injection hk with hk; omega)⟩, (MapsKept.grown hG hBy.kind).trans (.grown hR (fun k hk => by injection hk with hk; subst hk; exact ⟨_, _, _, hB.grownBy hG hne⟩))⟩
    have E : stepC ⟨2, 0, 0, left, body, [], 0, 0⟩ b = ⟨if left = 1 then 3 else 2, 0, 0, left - 1, body ++ [b], [], 0, 0⟩ := by simp [stepC]
    rw [E]
    by_cases q : left = 1
    · subst q
      exact ⟨⟨#[]⟩, v', hB', hA, hk'⟩
    · rw [if_neg q] at hB' ⊢
      exact ⟨K, v', hB', hA, hk'⟩
  · have hl0 : lines = 0 := by have := hc.lines; simp at this; omega
    subst hl0
    refine (mAfter 3 size digits left K (bs line) (0 : Nat) status v (b.toNat : Int) g w hB).mono fun e w' hP => ?_
    have E : stepC ⟨3, size, digits, left, body, line, 0, status⟩ b = if b = 13 then ⟨4, 0, 0, 0, body, [], 0, 0⟩ else badC ⟨3, size, digits, left, body, line, 0, status⟩ 400 := by simp [stepC]
    rw [E]
    by_cases q1 : b = 13
    · rw [if_pos (h13.2 q1)] at hP
      rw [if_pos q1]
      exact P ⟨4, 0, 0, 0, body, [], 0, 0⟩ ⟨#[]⟩ rfl rfl e w' hP
    · rw [if_neg (fun h => q1 (h13.1 h))] at hP
      rw [if_neg q1]
      exact P (badC _ 400) ⟨#[]⟩ rfl rfl e w' hP
  · have hl0 : lines = 0 := by have := hc.lines; simp at this; omega
    subst hl0
    refine (mBehind 4 size digits left K (bs line) (0 : Nat) status v (b.toNat : Int) g w hB).mono fun e w' hP => ?_
    have E : stepC ⟨4, size, digits, left, body, line, 0, status⟩ b = if b = 10 then ⟨0, 0, 0, 0, body, [], 0, 0⟩ else badC ⟨4, size, digits, left, body, line, 0, status⟩ 400 := by simp [stepC]
    rw [E]
    by_cases q1 : b = 10
    · rw [if_pos (h10.2 q1)] at hP
      rw [if_pos q1]
      exact P ⟨0, 0, 0, 0, body, [], 0, 0⟩ ⟨#[]⟩ rfl rfl e w' hP
    · rw [if_neg (fun h => q1 (h10.1 h))] at hP
      rw [if_neg q1]
      exact P (badC _ 400) ⟨#[]⟩ rfl rfl e w' hP
  · have hz0 : size = 0 ∧ digits = 0 := by have := hc.sized; simp at this; omega
    have hle : left = 0 := by have := hc.left; simp at this; omega
    have hsa : status = 0 := by have := hc.bad; simp at this; omega
    obtain ⟨rfl, rfl⟩ := hz0
    subst hle hsa
    refine (mTrailer 5 (0 : Nat) (0 : Nat) (0 : Nat) K (bs line) lines (0 : Nat) b v (by rw [bs_size]; omega) hmx g w hB).mono fun e w' hP => ?_
    have E : stepC ⟨5, 0, 0, 0, body, line, lines, 0⟩ b = if b = 13 then ⟨6, 0, 0, 0, body, line, lines, 0⟩ else if b = 10 then badC ⟨5, 0, 0, 0, body, line, lines, 0⟩ 400 else if (line = [] ∧ lines = 32) ∨ line.length = 512 then badC ⟨5, 0, 0, 0, body, line, lines, 0⟩ 431 else ⟨5, 0, 0, 0, body, line ++ [b], lines, 0⟩ := by simp [stepC]
    rw [E]
    by_cases q1 : b = 13
    · rw [if_pos q1] at hP ⊢
      exact P ⟨6, 0, 0, 0, body, line, lines, 0⟩ K rfl rfl e w' hP
    · rw [if_neg q1] at hP ⊢
      by_cases q2 : b = 10
      · rw [if_pos q2] at hP ⊢
        exact P (badC _ 400) ⟨#[]⟩ rfl rfl e w' hP
      · rw [if_neg q2] at hP ⊢
        simp only [bs_size, List.length_eq_zero_iff] at hP
        by_cases q3 : (line = [] ∧ lines = 32) ∨ line.length = 512
        · rw [if_pos q3] at hP ⊢
          exact P (badC _ 431) ⟨#[]⟩ rfl rfl e w' hP
        · rw [if_neg q3, bs_snoc] at hP
          rw [if_neg q3]
          exact P ⟨5, 0, 0, 0, body, line ++ [b], lines, 0⟩ K rfl rfl e w' hP
  · have hz0 : size = 0 ∧ digits = 0 := by have := hc.sized; simp at this; omega
    have hle : left = 0 := by have := hc.left; simp at this; omega
    have hsa : status = 0 := by have := hc.bad; simp at this; omega
    obtain ⟨rfl, rfl⟩ := hz0
    subst hle hsa
    refine (mLast 6 (0 : Nat) (0 : Nat) (0 : Nat) K (bs line) lines (0 : Nat) (b.toNat : Int) v (by rw [bs_size]; omega) hmx g w hB).mono fun e w' hP => ?_
    have E : stepC ⟨6, 0, 0, 0, body, line, lines, 0⟩ b = if b ≠ 10 then badC ⟨6, 0, 0, 0, body, line, lines, 0⟩ 400 else if line = [] then ⟨7, 0, 0, 0, body, [], lines, 0⟩ else if (colT line).2.2 ≠ 0 then badC ⟨6, 0, 0, 0, body, line, lines, 0⟩ 400 else ⟨5, 0, 0, 0, body, [], lines + 1, 0⟩ := by simp [stepC]
    rw [E]
    simp only [bs_size, List.length_eq_zero_iff, show (bs line).data.toList = line from rfl] at hP
    by_cases q1 : b = 10
    · rw [if_neg (fun h => h (h10.2 q1))] at hP
      rw [if_neg (fun h => h q1)]
      by_cases q2 : line = []
      · rw [if_pos q2] at hP ⊢
        exact P ⟨7, 0, 0, 0, body, [], lines, 0⟩ ⟨#[]⟩ rfl rfl e w' hP
      · rw [if_neg q2] at hP ⊢
        by_cases q3 : (colT line).2.2 ≠ 0
        · rw [if_pos q3] at hP ⊢
          exact P (badC _ 400) ⟨#[]⟩ rfl rfl e w' hP
        · rw [if_neg q3] at hP ⊢
          exact P ⟨5, 0, 0, 0, body, [], lines + 1, 0⟩ ⟨#[]⟩ rfl rfl e w' hP
    · rw [if_pos (fun h => q1 (h10.1 h))] at hP
      rw [if_pos q1]
      exact P (badC _ 400) ⟨#[]⟩ rfl rfl e w' hP
end
end Go.Proofs.YtencphfhpnljlaaGreatDoor
