/-
  WireWrites, the law.
-/
import Derived.Test.YtencphfhpnljlaaGreatDoorWtA
import Derived.Test.YtencphfhpnljlaaGreatDoorLw2
import Derived.Test.YtencphfhpnljlaaGreatDoorWiTabs
namespace Go.Proofs.YtencphfhpnljlaaGreatDoor
open Go.RowKit

set_option maxRecDepth 100000 in
set_option maxHeartbeats 16000000 in
theorem WireWrites_true (m t body : List UInt8) (A : Option Addr) (n c : Nat) (l : List Fld) (w : World) (hn : n ≤ 9223372036854775807) (hr : Reads w w.heap.size 2 A n (fldsC l)) (hx : ∀ f ∈ l, f.1.length ≤ 9223372036854775807 ∧ f.2.length ≤ 9223372036854775807) (hm : m.length ≤ 9223372036854775807) (ht : t.length ≤ 9223372036854775807) (hb : body.length ≤ 9223372036854775807) (hT : Tab11 w) :
    Calls Tryz.prog 6 #[.agg #[.string (bs m), .string (bs t)], .slice A n c, .string (bs body)] w fun e w' => e = .returned (.bool true) ∧ Below w.heap.size w w' := by
  obtain rfl := hr.flen
  obtain ⟨W0, hW0⟩ : ∃ W0, w.alloc (.cells #[.string (bs m), .string (bs t)] 24) = W0 := ⟨_, rfl⟩
  have b0 : Below w.heap.size w W0 := by rw [← hW0]; exact (Below.refl _ _).alloc (Nat.le_refl _) _
  have k0 : Blk W0 w.heap.size 24 #[.string (bs m), .string (bs t)] := by rw [← hW0]; exact Blk.new w 24 #[.string (bs m), .string (bs t)]
  have zb := bs_size body
  have c0 : W0.cell? ⟨w.heap.size, 0, none⟩ = some (.string (bs m)) := k0.cell 0
  have c1 : W0.cell? ⟨w.heap.size, 1, none⟩ = some (.string (bs t)) := k0.cell 1
  have hr0 := (hr.below b0).more b0.size
  have cL := pLight11 m t A l.length c l W0 hr0 hn hm ht hx
  unfold lineV LightPostW at cL
  have CL := Lib.hid cL
  have TB := Lib.hid (fun X (h : Below w.heap.size w X) => And.intro (hT.t.below h) (hT.w.below h))
  have K0 := Lib.hid k0
  have HR := Lib.hid hr0
  have G := Lib.hid b0
  clear b0 k0 hr hr0 cL hx hT
  go_enter Tryz.func6, Tryz.ntmps6
  go_wp2_with fail
  (with_reducible refine (CL.out).mono ?_); rintro e w1 ⟨r, rfl, hsm, g⟩
  have K1 := Lib.hid (K0.out.below g K0.out.lt)
  have HX := Lib.hid ((HR.out.below g).more g.size)
  have G := Lib.hid (G.out.trans (g.mono G.out.size))
  clear g
  cases r with
  | false =>
    clear hsm
    have AW := Lib.hid (awake11 w1 (TB.out _ G.out).2)
    go_wp2_with fail
    (with_reducible refine (AW.out).mono ?_); rintro e w2 ⟨rfl, g⟩
    go_wp2_with fail
    go_ret
    exact ⟨rfl, G.out.trans (g.mono G.out.size)⟩
  | true =>
    obtain ⟨hl40, hm2, ht2, hsm⟩ := hsm rfl
    by_cases hbl : 2100 < body.length
    · have d1 : decide ((2100 : Int) < (body.length : Int)) = true := by simp; omega
      have AW := Lib.hid (awake11 w1 (TB.out _ G.out).2)
      clear hsm
      go_wp2_with fail
      (with_reducible refine (AW.out).mono ?_); rintro e w2 ⟨rfl, g⟩
      go_wp2_with fail
      go_ret
      exact ⟨rfl, G.out.trans (g.mono G.out.size)⟩
    have d1 : decide ((2100 : Int) < (body.length : Int)) = false := by simp; omega
    have hS : fldsOk l := fun f hf => by have := hsm f hf; omega
    have cOW := Lib.hid (OwnFields_any A l.length c l w1 HX.out (by omega))
    have c2 := fun B d X hr htab => pTextW m t body B l.length d l X (by omega) (by omega) (by omega) hr (by omega) hS htab
    have c3 := fun X hr => rText11 m t body A l.length c l X (by omega) (by omega) (by omega) hr (by omega) hS
    obtain ⟨⟨T, E⟩, hTE⟩ : ∃ x, textP m t l body = x := ⟨_, rfl⟩
    rw [hTE] at c2 c3
    simp only at c2 c3
    have C2 := Lib.hid c2
    have C3 := Lib.hid c3
    clear c2 c3 hTE hsm hS hbl
    have e1 : (((E : Nat) : Int) == ((E : Nat) : Int)) = true := by simp
    have e3 : ((bs T).toList == (bs T).toList) = true := by simp
    go_wp2_with fail
    (with_reducible refine (cOW.out).mono ?_); rintro e w2 ⟨B, d, rfl, _, hr, g⟩
    have K2 := Lib.hid (K1.out.below g K1.out.lt)
    have HX := Lib.hid ((HX.out.below g).more g.size)
    have HH := Lib.hid hr
    have G := Lib.hid (G.out.trans (g.mono G.out.size))
    clear hr g
    have c0 : w2.cell? ⟨w.heap.size, 0, none⟩ = some (.string (bs m)) := K2.out.cell 0
    have c1 : w2.cell? ⟨w.heap.size, 1, none⟩ = some (.string (bs t)) := K2.out.cell 1
    have CT := Lib.hid (C2.out B d w2 HH.out (TB.out _ G.out).1)
    go_wp2_with fail
    (with_reducible refine (CT.out).mono ?_); rintro e w3 ⟨rfl, g⟩
    have K3 := Lib.hid (K2.out.below g K2.out.lt)
    have HX := Lib.hid ((HX.out.below g).more g.size)
    have HH := Lib.hid ((HH.out.below g).more g.size)
    have G := Lib.hid (G.out.trans (g.mono G.out.size))
    clear g
    have c0 : w3.cell? ⟨w.heap.size, 0, none⟩ = some (.string (bs m)) := K3.out.cell 0
    have c1 : w3.cell? ⟨w.heap.size, 1, none⟩ = some (.string (bs t)) := K3.out.cell 1
    have CR := Lib.hid (C3.out w3 HX.out)
    go_wp2_with fail
    (with_reducible refine (CR.out).mono ?_); rintro e w4 ⟨rfl, g⟩
    have HX := Lib.hid ((HX.out.below g).more g.size)
    have HH := Lib.hid ((HH.out.below g).more g.size)
    have G := Lib.hid (G.out.trans (g.mono G.out.size))
    clear g
    have cF := SameFields_any B A l.length l.length d c l l w4 HH.out HX.out (by omega) (by omega)
    rw [decide_eq_true rfl] at cF
    have CF := Lib.hid cF
    clear cF
    go_wp2_with fail
    (with_reducible refine (CF.out).mono ?_); rintro e w5 ⟨rfl, m5, rfl⟩
    have G := Lib.hid (below_drewN G.out m5)
    have AW := Lib.hid (awake11 _ (TB.out _ G.out).2)
    go_wp2_with fail
    (with_reducible refine (AW.out).mono ?_); rintro e w6 ⟨rfl, g⟩
    have G := Lib.hid (G.out.trans (g.mono G.out.size))
    go_wp2_with fail
    go_ret
    exact ⟨rfl, G.out⟩
end Go.Proofs.YtencphfhpnljlaaGreatDoor
