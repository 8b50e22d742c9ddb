/-
  ChunkedDecodes, ChunkedEncodes, the laws.
-/
import Derived.Test.YtkbihipgnlglbaaGreatDoorLa10
namespace Go.Proofs.YtkbihipgnlglbaaGreatDoor
open Go.RowKit

set_option maxRecDepth 100000 in
set_option maxHeartbeats 8000000 in
theorem ChunkedDecodes_true (s : ByteArray) (hs : s.size ≤ 9223372036854775807) (w : World) (hw : Held10 w) : Calls Tryz.prog 3 #[.string s] w fun e w' => e = .returned (.bool true) ∧ Below w.heap.size w w' := by
  have TB := Lib.hid (fun X (h : Below w.heap.size w X) => awake10 X (hw.below h))
  have HW := Lib.hid hw.2
  have HW0 := Lib.hid (awake10 w hw)
  clear hw
  by_cases h3 : 3000 < s.size
  · have e1 : decide ((3000 : Int) < (s.size : Int)) = true := by simp; omega
    go_enter Tryz.func3, Tryz.ntmps3
    go_wp2_with fail
    (with_reducible refine (HW0.out).mono ?_); rintro e w1 ⟨rfl, g1⟩
    go_wp2_with fail
    go_ret
    exact ⟨rfl, g1⟩
  · have e1 : decide ((3000 : Int) < (s.size : Int)) = false := by simp; omega
    have CD := Lib.hid (fun w hE => pDecode s (by omega) w hE)
    have CR := Lib.hid (fun w => rDecode s (by omega) w)
    generalize decodeT s.data.toList = d at *
    obtain ⟨d0, d1, d2⟩ := d
    simp only at CD CR
    generalize hB : bs d0 = B at *
    have hq : (B.toList == B.toList) = true := beq_self_eq_true _
    clear hB h3 hs
    go_enter Tryz.func3, Tryz.ntmps3
    go_wp2_with fail
    (with_reducible refine (CD.out _ HW.out).mono ?_); rintro e w1 ⟨rfl, g1⟩
    have h1 := g1
    clear g1
    go_wp2_with fail
    (with_reducible refine (CR.out _).mono ?_); rintro e w2 ⟨rfl, g⟩
    have h2 := h1.trans (g.mono h1.size)
    have C3 := Lib.hid (TB.out _ h2)
    clear g h1
    go_wp2_with fail
    (with_reducible refine (C3.out).mono ?_); rintro e w3 ⟨rfl, g⟩
    have h3 := h2.trans (g.mono h2.size)
    clear g h2
    go_wp2_with fail
    go_ret
    exact ⟨by simp, h3⟩
set_option maxRecDepth 100000 in
set_option maxHeartbeats 8000000 in
theorem ChunkedEncodes_true (s : ByteArray) (hs : s.size ≤ 9223372036854775807) (A : Option Addr) (n c : Nat) (zs : List Int) (w : World) (hr : Reads w w.heap.size 1 A n (zs.map (Value.int .i64))) (hn : n ≤ 9223372036854775807) (hw : Held10 w) :
    Calls Tryz.prog 4 #[.string s, .slice A n c] w fun e w' => e = .returned (.bool true) ∧ Below w.heap.size w w' := by
  have TB := Lib.hid (fun X (h : Below w.heap.size w X) => hw.below h)
  have HW0 := Lib.hid (awake10 w hw)
  clear hw
  by_cases h3 : 2100 < s.size
  · have e1 : decide ((2100 : Int) < (s.size : Int)) = true := by simp; omega
    go_enter Tryz.func4, Tryz.ntmps4
    go_wp2_with fail
    (with_reducible refine (HW0.out).mono ?_); rintro e w1 ⟨rfl, g1⟩
    go_wp2_with fail
    go_ret
    exact ⟨rfl, g1⟩
  have e1 : decide ((2100 : Int) < (s.size : Int)) = false := by simp; omega
  by_cases h4 : 100 < n
  · have e2 : decide ((100 : Int) < (n : Int)) = true := by simp; omega
    go_enter Tryz.func4, Tryz.ntmps4
    go_wp2_with fail
    (with_reducible refine (HW0.out).mono ?_); rintro e w1 ⟨rfl, g1⟩
    go_wp2_with fail
    go_ret
    exact ⟨rfl, g1⟩
  have e2 : decide ((100 : Int) < (n : Int)) = false := by simp; omega
  have CO := Lib.hid (OwnInts_z A n c zs w hr (by omega))
  have cE : ∀ (B : Option Addr) (d : Nat) (X : World), Reads X X.heap.size 1 B n (zs.map (Value.int .i64)) → Tabs X → Calls Tryz.prog 12 #[.string s, .slice B n d] X fun e w' => e = .returned (.tuple #[.string (bs (encOut s.data.toList zs).1), .int .i64 (encOut s.data.toList zs).2]) ∧ Below X.heap.size X w' := fun B d X hr' ht => by
    have c := pEncode s.data.toList B n d zs X hr' (by omega) (by rw [size_l]; omega) ht
    rw [bs_of] at c
    exact c
  have cR : ∀ (B : Option Addr) (d : Nat) (X : World), Reads X X.heap.size 1 B n (zs.map (Value.int .i64)) → Calls Tryz.prog 13 #[.string s, .slice B n d] X fun e w' => e = .returned (.tuple #[.string (bs (encOut s.data.toList zs).1), .int .i64 (encOut s.data.toList zs).2]) ∧ Below X.heap.size X w' := fun B d X hr' => by
    have c := rEncode s.data.toList B n d zs X hr' (by omega) (by rw [size_l]; omega)
    rw [bs_of] at c
    exact c
  have hn6 : n ≤ 1000000 := by omega
  have CS := Lib.hid (fun (B C : Option Addr) (b d : Nat) (X : World) h k => SameInts_z B C n b d zs X h k hn6)
  generalize (encOut s.data.toList zs) = d at *
  obtain ⟨d0, d1⟩ := d
  simp only at cE cR
  generalize hB : bs d0 = B0 at *
  have hq : (B0.toList == B0.toList) = true := beq_self_eq_true _
  have CE := Lib.hid cE
  have CR := Lib.hid cR
  have HR := Lib.hid hr
  clear hB h3 hs hr cE cR h4 hn6
  go_enter Tryz.func4, Tryz.ntmps4
  go_wp2_with fail
  (with_reducible refine (CO.out).mono ?_); rintro e w1 ⟨B, b, rfl, hr, g⟩
  have h1 := g
  have HR := Lib.hid ((HR.out.below g).more g.size)
  have HO := Lib.hid hr
  have HT := Lib.hid (TB.out _ h1).1
  clear g hr
  go_wp2_with fail
  (with_reducible refine (CE.out _ _ _ HO.out HT.out).mono ?_); rintro e w2 ⟨rfl, g⟩
  have h2 := h1.trans (g.mono h1.size)
  have HR := Lib.hid ((HR.out.below g).more g.size)
  have HO := Lib.hid ((HO.out.below g).more g.size)
  clear g h1
  go_wp2_with fail
  (with_reducible refine (CR.out _ _ _ HR.out).mono ?_); rintro e w3 ⟨rfl, g⟩
  have h3 := h2.trans (g.mono h2.size)
  have HR := Lib.hid ((HR.out.below g).more g.size)
  have HO := Lib.hid ((HO.out.below g).more g.size)
  clear g h2
  go_wp2_with fail
  (with_reducible refine (CS.out _ _ _ _ _ HO.out HR.out).mono ?_); rintro e w4 ⟨rfl, g⟩
  have h4 := h3.trans (g.mono h3.size)
  have HA := Lib.hid (awake10 _ (TB.out _ h4))
  clear g h3
  go_wp2_with fail
  (with_reducible refine (HA.out).mono ?_); rintro e w5 ⟨rfl, g⟩
  have h5 := h4.trans (g.mono h4.size)
  clear g h4
  go_wp2_with fail
  go_ret
  exact ⟨by simp, h5⟩
end Go.Proofs.YtkbihipgnlglbaaGreatDoor
