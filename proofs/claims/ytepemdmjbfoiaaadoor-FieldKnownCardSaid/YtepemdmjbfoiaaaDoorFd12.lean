/-
  Drop of the reference.
-/
import Derived.BigQuiet
import Derived.Test.YtepemdmjbfoiaaaDoorFd11
namespace Go.Proofs.YtepemdmjbfoiaaaDoor
open Go.RowKit

/-- whether a field has one of the names -/
def goneF (ns : List (List UInt8)) (f : Fld) : Bool := ns.any fun nm => sameN nm f
def dropL (ns : List (List UInt8)) (l : List Fld) : List Fld := l.filter fun f => !goneF ns f
theorem dropL_app (ns : List (List UInt8)) (l : List Fld) (f : Fld) : dropL ns (l ++ [f]) = dropL ns l ++ (if goneF ns f then [] else [f]) := by
  unfold dropL
  rw [List.filter_append]
  cases h : goneF ns f <;> simp [h]
theorem dropL_len (ns : List (List UInt8)) (l : List Fld) : (dropL ns l).length ≤ l.length := List.length_filter_le _ _
def dropR (ns : List (List UInt8)) (l : List Fld) : List Fld := if askL l ns = 0 then dropL ns l else []
def dropN (ns : List (List UInt8)) (l : List Fld) : Nat := if askL l ns = 0 then l.length - (dropL ns l).length else 0
def DropPost (ns : List (List UInt8)) (l : List Fld) (w : World) (e : Ending) (w' : World) : Prop := ∃ A cap, e = .returned (.tuple #[.slice A (dropR ns l).length cap, .int .i64 (dropN ns l), .int .i64 (askL l ns)]) ∧ (dropR ns l).length ≤ cap ∧ Reads w' w'.heap.size 2 A (dropR ns l).length (fldsC (dropR ns l)) ∧ Below w.heap.size w w'

set_option maxRecDepth 100000 in
set_option maxHeartbeats 16000000 in
theorem rDrop (A B : Option Addr) (n c m d : Nat) (l : List Fld) (ns : List (List UInt8)) (w : World) (hr : Reads w w.heap.size 2 A n (fldsC l)) (hs : Reads w w.heap.size 1 B m (strs ns)) (hn : n ≤ 100000) (hm : m ≤ 100000) (hl : fldsOk l) (hx : ∀ x ∈ ns, x.length ≤ 9223372036854775807) :
    Calls Tryd.prog 63 #[.slice A n c, .slice B m d] w (DropPost ns l w) := by
  obtain rfl := hr.flen
  obtain rfl : m = ns.length := by simpa [strs] using hs.len
  have cA := rasked A B l.length c ns.length d l ns w hr hs hn hm hl hx
  obtain ⟨E, hE⟩ : ∃ E, askL l ns = E := ⟨_, rfl⟩
  unfold DropPost dropR dropN
  rw [hE] at cA ⊢
  have CA := Lib.hid cA
  have HR := Lib.hid hr
  have HS := Lib.hid hs
  have HL := Lib.hid hl
  have HX := Lib.hid hx
  clear cA hr hs hl hx hE
  by_cases he : E = 0
  · subst he
    rw [if_pos rfl, if_pos rfl]
    have e1 : (((0 : Nat) : Int) != 0) = false := rfl
    go_enter Tryd.func63, Tryd.ntmps63
    go_wp2_with fail
    (with_reducible refine (CA.out).mono ?_); rintro e w1 ⟨rfl, hb1⟩
    go_wp2_with fail
    go_loopw [8, 9] (fun o i wr => ∃ k : Nat, i = .int .i64 k ∧ k ≤ l.length ∧ Hid (wr.ownsRow w1.heap.size 52 2 o (dropL ns (l.take k)).length (fldsC (dropL ns (l.take k)))) ∧ Below w1.heap.size w1 wr) (fun _ i _ => l.length - (intOf i).toNat)
    case atStart => exact ⟨0, rfl, by omega, World.ownsRow_nil _ _ _ _, Below.refl _ _⟩
    case round =>
      obtain ⟨k, rfl, hk, HO, hb⟩ := hrel
      rename World => W0
      have hP := dropL_len ns (l.take k)
      rw [List.length_take] at hP
      by_cases hlt : k < l.length
      · obtain ⟨b, o, rfl, hbl, q0, q1⟩ := HR.out.fld k hlt
        have hbw := hb1.trans (hb.mono hb1.size)
        have c0 := (hbw.cell (p := ⟨b, o + k * 2, none⟩) hbl).trans q0
        have c1 := (hbw.cell (p := ⟨b, o + k * 2 + 1, none⟩) hbl).trans q1
        obtain ⟨f, hf⟩ : ∃ f, l[k] = f := ⟨_, rfl⟩
        have hok := HL.out l[k] (List.getElem_mem hlt)
        rw [hf] at c0 c1 hok
        have htk := take_snoc_of hlt hf
        have hPA := dropL_app ns (l.take k) f
        rw [← htk] at hPA
        have HC := Lib.hid (And.intro c0 c1)
        have HPA := Lib.hid hPA
        have hk0 : (0 : Int) ≤ (k : Int) := by omega
        have hk1 : (k : Int) < (l.length : Int) := by omega
        clear q0 q1 c0 c1 htk hf hPA
        go_wp2_with fail
        go_loopw [10, 11] (fun g i wr => ∃ j : Nat, i = .int .i64 j ∧ j ≤ ns.length ∧ g = .bool (goneF (ns.take j) f) ∧ Below W0.heap.size W0 wr) (fun _ i _ => ns.length - (intOf i).toNat)
        case atStart => exact ⟨0, rfl, by omega, rfl, Below.refl _ _⟩
        case round =>
          obtain ⟨j, rfl, hj, rfl, hbj⟩ := hrel
          rename World => X0
          by_cases hjl : j < ns.length
          · have hG : goneF (ns.take (j + 1)) f = (goneF (ns.take j) f || sameN ns[j] f) := by
              unfold goneF
              rw [List.take_succ_eq_append_getElem hjl, List.any_append]
              simp
            obtain ⟨G, hGd⟩ : ∃ G, goneF (ns.take j) f = G := ⟨_, rfl⟩
            rw [hGd] at hG ⊢
            clear hGd
            have HG := Lib.hid hG
            clear hG
            cases G with
            | true =>
              go_wp2_with fail
              go_quiet (fail)
              go_wp2_with fail
              go_roundw
              case rel => exact ⟨j + 1, by go_num, by omega, by rw [HG.out]; rfl, below_drewN hbj _⟩
              case measure => simp [intOf]; omega
            | false =>
              have hbX := hbw.trans (hbj.mono hbw.size)
              obtain ⟨b2, o2, rfl, hbl2, q2⟩ := HS.out.text j hjl
              have hxj := HX.out ns[j] (List.getElem_mem hjl)
              obtain ⟨nm, hnm⟩ : ∃ nm, ns[j] = nm := ⟨_, rfl⟩
              rw [hnm] at q2 hxj
              have HG := HG.out
              rw [hnm] at HG
              have d0 := (hbj.cell (p := ⟨b, o + k * 2, none⟩) (Nat.lt_of_lt_of_le hbl hbw.size)).trans HC.out.1
              have d2 := (hbX.cell (p := ⟨b2, o2 + j, none⟩) hbl2).trans q2
              have cS := fun w => rSame (bs f.1) (bs nm) w (by rw [bs_size]; omega) (by rw [bs_size]; omega)
              rw [bs_list, bs_list] at cS
              have hss : (lowL f.1 == lowL nm) = sameN nm f := rfl
              rw [hss] at cS
              obtain ⟨T, hT⟩ : ∃ T, sameN nm f = T := ⟨_, rfl⟩
              rw [hT] at cS HG
              have HG := Lib.hid HG
              have CS : Hid (∀ X, Hid (Below X0.heap.size X0 X) → Calls Tryd.prog 44 #[.string (bs f.1), .string (bs nm)] X fun e w' => e = .returned (.bool T) ∧ Hid (Below X0.heap.size X0 w') ∧ (w'.cell? ⟨b, o + k * 2, none⟩ = some (.string (bs f.1)) ∧ w'.cell? ⟨b2, o2 + j, none⟩ = some (.string (bs nm)))) := hide fun X hX => (cS X).mono fun e w' ⟨he, hb'⟩ => ⟨he, hide (hX.out.trans (hb'.mono hX.out.size)), ((hX.out.trans (hb'.mono hX.out.size)).cell (p := ⟨b, o + k * 2, none⟩) (Nat.lt_of_lt_of_le hbl hbX.size)).trans d0, ((hX.out.trans (hb'.mono hX.out.size)).cell (p := ⟨b2, o2 + j, none⟩) (Nat.lt_of_lt_of_le hbl2 hbX.size)).trans d2⟩
              have HR0 : Hid (Below X0.heap.size X0 X0.drew) := hide (Below.refl _ _).drew
              clear cS hT hnm q2 hss
              go_wp2_with fail
              go_region_held3 (fun w' => w'.cell? ⟨b, o + k * 2, none⟩ = some (.string (bs f.1)) ∧ w'.cell? ⟨b2, o2 + j, none⟩ = some (.string (bs nm))) (go_keep) (first | (go_at_call 44; (with_reducible refine (CS.out _ (by assumption)).mono ?_); rintro r va ⟨rfl, hva, va0, va1⟩))
              have hbY := hbj.trans (hva.out.mono hbj.size)
              clear va0 va1 hva
              go_wp2_with fail
              go_roundw
              case rel => exact ⟨j + 1, by go_num, by omega, by rw [HG.out]; simp, hbY⟩
              case measure => simp [intOf]; omega
          · obtain rfl : j = ns.length := by omega
            have hd2 : decide ((ns.length : Int) < (ns.length : Int)) = false := by simp
            rw [List.take_length]
            have hbX := hb.trans (hbj.mono hb.size)
            have c0 := (hbj.cell (p := ⟨b, o + k * 2, none⟩) (Nat.lt_of_lt_of_le hbl hbw.size)).trans HC.out.1
            have c1 := (hbj.cell (p := ⟨b, o + k * 2 + 1, none⟩) (Nat.lt_of_lt_of_le hbl hbw.size)).trans HC.out.2
            obtain ⟨G, hG⟩ : ∃ G, goneF ns f = G := ⟨_, rfl⟩
            have hPA := HPA.out
            rw [hG] at hPA ⊢
            clear hG
            cases G with
            | true =>
              rw [if_pos rfl, List.append_nil] at hPA
              have HO' : Hid (X0.ownsRow w1.heap.size 52 2 u8 (dropL ns (l.take (k + 1))).length (fldsC (dropL ns (l.take (k + 1))))) := by
                show X0.ownsRow _ _ _ _ _ _
                rw [hPA]; exact own_below HO.out hbj
              clear hPA hb hbw
              go_wp2_with fail
              go_roundw
              case rel => exact ⟨k + 1, by go_num, by omega, HO', hbX⟩
              case measure => simp [intOf]; omega
            | false =>
              rw [if_neg (by simp)] at hPA
              obtain ⟨v', w5, hrun, hown, hb5, _⟩ := app_fld (own_below HO.out hbj) hbX.size (by omega) f
              have HO' : Hid (w5.ownsRow w1.heap.size 52 2 v' (dropL ns (l.take (k + 1))).length (fldsC (dropL ns (l.take (k + 1))))) := by
                show w5.ownsRow _ _ _ _ _ _
                rw [hPA]; exact hown
              have HRUN := Lib.hid hrun
              have hbY := hbX.trans hb5
              clear hrun hown hb5 hbX hPA hb hbw
              go_wp2_with (at_builtin; refine wpList_append_run HRUN.out rfl _ _ rfl rfl rfl rfl ?_)
              go_roundw
              case rel => exact ⟨k + 1, by go_num, by omega, HO', hbY⟩
              case measure => simp [intOf]; omega
      · have hkl : k = l.length := by omega
        subst hkl
        have hd2 : decide ((l.length : Int) < (l.length : Int)) = false := by simp
        have ho := HO.out
        rw [List.take_length] at ho hP
        obtain ⟨A', cap, rfl⟩ := own_slice ho
        have HO2 := Lib.hid ho
        have hsub : (l.length : Int) - ((dropL ns l).length : Int) = ((l.length - (dropL ns l).length : Nat) : Int) := by omega
        clear ho
        go_wp2_with fail
        go_ret3
        exact ⟨A', cap, rfl, own_capA HO2.out, Reads.of_own HO2.out, hb1.trans (hb.mono hb1.size)⟩
  · rw [if_neg he, if_neg he]
    have e1 : ((E : Int) != 0) = true := by rw [bne_iff_ne]; omega
    go_enter Tryd.func63, Tryd.ntmps63
    go_wp2_with fail
    (with_reducible refine (CA.out).mono ?_); rintro e w1 ⟨rfl, hb1⟩
    go_wp2_with fail
    go_ret3
    exact ⟨none, 0, rfl, Nat.zero_le _, Reads.none_, hb1⟩
end Go.Proofs.YtepemdmjbfoiaaaDoor
