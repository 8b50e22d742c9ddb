/-
  What a connection and an event that came in as arguments give. PersistParts, the law.
-/
import Derived.Test.YtepemdmjbfoiaaaDoorProg
import Derived.Test.YtepemdmjbfoiaaaDoorBase
import Derived.Lib.SmallJoins
import Derived.OpenShut
import Derived.Test.YtepemdmjbfoiaaaDoorLPeAnsM
namespace Go.Proofs.YtepemdmjbfoiaaaDoor

section
open Go.RowKit Go.WideShapes Go.ChangeShapes

section
variable {H : Type} {enc : TypeId × Value → H}
set_option maxRecDepth 100000 in
theorem open_lk {W : World} {base : Nat} {v : Value} {d : DataW H} {p : List MemPlace} (hval : Value.okWide Tryd.prog W .any base 76 v) (h : DataW.Trod enc Tryd.prog W 0 (fun _ => true) true 76 v d p) :
    ∃ (s : Int) (a : Bool) (m c : Int), v = .agg #[.int .i64 s, .bool a, .int .i64 m, .int .i64 c] := by
  obtain ⟨v0, v1, v2, v3, y0, y1, y2, y3, n, rfl, _, _, h0, h1, h2, h3⟩ := Go.Joins.open_agg4 Tryd.underlying76 (by kernel_rfl) (by kernel_rfl) hval h
  obtain ⟨s, e0, _, _⟩ := DataW.trod_int Tryd.underlying3 h0
  obtain ⟨a, e1, _⟩ := DataW.trod_bool Tryd.underlying4 h1
  obtain ⟨m, e2, _, _⟩ := DataW.trod_int Tryd.underlying3 h2
  obtain ⟨c, e3, _, _⟩ := DataW.trod_int Tryd.underlying3 h3
  simp only [List.cons.injEq, and_true] at e0 e1 e2 e3
  subst e0 e1 e2 e3
  exact ⟨s, a, m, c, rfl⟩
set_option maxRecDepth 100000 in
theorem open_ev {W : World} {base : Nat} {v : Value} {d : DataW H} {p : List MemPlace} (hval : Value.okWide Tryd.prog W .any base 81 v) (h : DataW.Trod enc Tryd.prog W 0 (fun _ => true) true 81 v d p) :
    ∃ (k c : Int) (b : Bool), v = .agg #[.int .i64 k, .int .i64 c, .bool b] := by
  obtain ⟨v0, v1, v2, y0, y1, y2, n, rfl, _, _, h0, h1, h2⟩ := Go.Joins.open_agg3 Tryd.underlying81 (by kernel_rfl) (by kernel_rfl) hval h
  obtain ⟨s, e0, _, _⟩ := DataW.trod_int Tryd.underlying3 h0
  obtain ⟨m, e1, _, _⟩ := DataW.trod_int Tryd.underlying3 h1
  obtain ⟨a, e2, _⟩ := DataW.trod_bool Tryd.underlying4 h2
  simp only [List.cons.injEq, and_true] at e0 e1 e2
  subst e0 e1 e2
  exact ⟨s, m, a, rfl⟩
end
end

section
open Go.RowKit

/-- what a piece of code leaves where it goes on -/
def onNormal (R : Act → World → Prop) : Exit → Act → World → Prop
  | .normal, a, w => R a w
  | _, _, _ => False
theorem wp_normal {P : Program} {c : Code} {Q : Exit → Act → World → Prop} {a : Act} {w : World} {R : Act → World → Prop} (h : c.wp P (onNormal R) a w) (k : ∀ a' w', R a' w' → Q .normal a' w') : c.wp P Q a w :=
  Code.wp_mono (fun e a' w' h => by cases e <;> first | exact k _ _ h | exact h.elim) h

/-- a part of a list, as Go's slicing lays it -/
theorem Reads.evslice {w : World} {Bd : Nat} {B : Option Addr} {l : List Ev} (h : Reads w Bd 3 B l.length (evsC l)) (p j d : Nat) (hp : p ≤ j) (hj : j ≤ l.length) (hd : l.length ≤ d) :
    Reads w Bd 3 (if d = p then B else B.map (fun x => x.add (p * 3))) (j - p) (evsC ((l.take j).drop p)) := by
  refine ⟨by rw [evsC_len]; simp; omega, fun h0 => ?_⟩
  obtain ⟨b, o, rfl, hb, _⟩ := h.ev (by omega)
  rw [if_neg (by omega)]
  obtain ⟨a, e, _, hc⟩ := h.2 (by omega)
  injection e with e
  subst e
  refine ⟨⟨b, o + p * 3, none⟩, by simp [Addr.add], hb, fun i u hu => ?_⟩
  have h1 := hc (p * 3 + i) u ?_
  · rw [Addr.add_lit] at h1 ⊢
    rw [Nat.add_assoc]
    exact h1
  · have e1 : evsC l = evsC (l.take p) ++ (evsC ((l.take j).drop p) ++ evsC (l.drop j)) := by
      rw [← evsC_app, ← evsC_app]
      congr 1
      have e2 : (l.take j).take p = l.take p := by rw [List.take_take, Nat.min_eq_left hp]
      rw [← e2, ← List.append_assoc, List.take_append_drop, List.take_append_drop]
    have hlen : (evsC (l.take p)).length = p * 3 := by rw [evsC_len]; simp; omega
    rw [e1, List.getElem?_append_right (by omega), hlen, Nat.add_sub_cancel_left, List.getElem?_append_left (List.getElem?_eq_some_iff.1 hu).1]
    exact hu

set_option maxRecDepth 100000 in
set_option maxHeartbeats 16000000 in
theorem PersistParts_true (A : Option Addr) (n c : Nat) (zs : List Int) (at_ : Int) (k0 c0 : Int) (b0 : Bool) (w : World) (hr : Reads w w.heap.size 1 A n (zs.map (Value.int .i64))) (hn : n ≤ 9223372036854775807) (hw : ∀ z ∈ zs, -9223372036854775808 ≤ z ∧ z ≤ 9223372036854775807) (ha : -9223372036854775808 ≤ at_ ∧ at_ ≤ 9223372036854775807) :
    Calls Tryd.prog 18 #[.slice A n c, .int .i64 at_, .agg #[.int .i64 k0, .int .i64 c0, .bool b0]] w fun e w' => e = .returned (.bool true) ∧ Below w.heap.size w w' := by
  have CK := Lib.hid PersistKnown_true
  have CM := Lib.hid (fun w hr => made_any A n c zs w hr hn hw)
  have CN := Lib.hid pNew
  have hb0 : Below w.heap.size w (w.alloc (.cells #[.int .i64 k0, .int .i64 c0, .bool b0] 81)) := (Below.refl _ _).alloc (Nat.le_refl _) _
  have m0 := Blk.new w 81 #[.int .i64 k0, .int .i64 c0, .bool b0]
  have HR := Lib.hid (And.intro hr (And.intro hb0 m0))
  clear hr hw hb0 m0
  go_enter Tryd.func18, Tryd.ntmps18
  go_wp2_with fail
  (with_reducible refine (CK.out _).mono ?_); rintro e w1 ⟨rfl, g1⟩
  have h1 := HR.out.2.1.trans (g1.mono HR.out.2.1.size)
  have m1 := HR.out.2.2.below g1 HR.out.2.2.lt
  go_wp2_with fail
  (with_reducible refine (CM.out _ ((HR.out.1.below h1).more h1.size)).mono ?_); rintro e w2 ⟨B, d, es, j, rfl, hcap, hj, h40, hok, rE, g2⟩
  have h2 := h1.trans (g2.mono h1.size)
  have m2 := m1.below g2 m1.lt
  have CMd := Lib.hid (Mod_any at_ ((j : Int) + 1) w2 ha.1 ha.2 (by omega) (by omega))
  have H0 := Lib.hid (And.intro h2 (And.intro m2 (And.intro rE (And.intro hok (And.intro hj (And.intro h40 hcap))))))
  have i0 : (0 : Int) ≤ (j : Int) := by omega
  have i1 : (j : Int) ≤ (d : Int) := by omega
  have i2 : (j : Int) ≤ 40 := by omega
  clear h1 m1 g1 h2 m2 g2 rE hok hj h40 hcap
  go_wp2_with fail
  (with_reducible refine (CMd.out).mono ?_); rintro e w3 ⟨r, hr0, hr1, rfl, rfl⟩
  obtain ⟨p, rfl⟩ := Int.eq_ofNat_of_zero_le hr0
  have hp : p ≤ j := by omega
  obtain ⟨h2, m2, rE, hok, hj, h40, hcap⟩ := H0.out
  obtain ⟨hok1, hok2, hcat⟩ : okT init (es.take p) ∧ okT (aft init (es.take p)) ((es.take j).drop p) ∧ aft (aft init (es.take p)) ((es.take j).drop p) = aft init (es.take j) := by
    have e1 : es.take j = es.take p ++ (es.take j).drop p := by
      have : (es.take j).take p = es.take p := by rw [List.take_take, Nat.min_eq_left hp]
      rw [← this, List.take_append_drop]
    have sp : ∀ (l : Lk) (xs ys : List Ev), okT l (xs ++ ys) → okT l xs ∧ okT (aft l xs) ys := by
      intro l xs ys
      induction xs generalizing l with
      | nil => intro h; exact ⟨trivial, h⟩
      | cons x xs ih => intro h; exact ⟨⟨h.1, (ih _ h.2).1⟩, (ih _ h.2).2⟩
    have h := hok
    rw [e1] at h
    refine ⟨(sp _ _ _ h).1, (sp _ _ _ h).2, ?_⟩
    conv => rhs; rw [e1]
    unfold aft
    rw [List.foldl_append]
  clear hr0 hr1
  go_wp2_with fail
  obtain ⟨⟨s1, a1, m1, q1⟩, hZ1⟩ : ∃ Z, aft init (es.take p) = Z := ⟨_, rfl⟩
  obtain ⟨⟨s, a, m, q⟩, hZ⟩ : ∃ Z, aft init (es.take j) = Z := ⟨_, rfl⟩
  rw [hZ1] at hok2 hcat
  rw [hZ] at hcat
  have cR6 := fun w hr => pRun init B p d (es.take p) w hr (by omega)
  rw [runV_init, runT_all _ _ hok1, List.length_take, Nat.min_eq_left (by omega), hZ1] at cR6
  unfold lkV linkV init at cR6
  simp only at cR6
  have RJ6 : Hid (∀ X, Below w2.heap.size w2 X → Reads X X.heap.size 3 B p (evsC (es.take p))) := hide fun X hX => ((rE.evtake p (by omega)).below hX).more hX.size
  have i3 : (0 : Int) ≤ (p : Int) := by omega
  have i4 : (p : Int) ≤ (d : Int) := by omega
  have i5 : (p : Int) ≤ (j : Int) := by omega
  have KN16 : Hid (∀ X, Hid (Below w2.heap.size w2 X) → Calls Tryd.prog 77 #[] X fun e w' => e = .returned (.agg #[.int .i64 1, .bool false, .int .i64 0, .int .i64 0]) ∧ Hid (Below w2.heap.size w2 w')) := hide fun X hX => (CN.out X).mono fun e w' ⟨he, hb⟩ => ⟨he, hide (hX.out.trans (hb.mono hX.out.size))⟩
  have KN26 : Hid (∀ X g, Hid (Below w2.heap.size w2 X) → Hid (Blk X g 76 #[.int .i64 0, .bool false, .int .i64 0, .int .i64 0] ∧ w2.heap.size ≤ g) → Calls Tryd.prog 77 #[] X fun e w' => e = .returned (.agg #[.int .i64 1, .bool false, .int .i64 0, .int .i64 0]) ∧ Hid (Below w2.heap.size w2 w') ∧ Hid (Blk w' g 76 #[.int .i64 0, .bool false, .int .i64 0, .int .i64 0] ∧ w2.heap.size ≤ g)) := hide fun X g hX hg => (CN.out X).mono fun e w' ⟨he, hb⟩ => ⟨he, hide (hX.out.trans (hb.mono hX.out.size)), hide ⟨hg.out.1.below hb hg.out.1.lt, hg.out.2⟩⟩
  have KR16 : Hid (∀ X, Hid (Below w2.heap.size w2 X) → Calls Tryd.prog 76 #[.agg #[.int .i64 1, .bool false, .int .i64 0, .int .i64 0], .slice B p d] X fun e w' => e = .returned (.tuple #[.agg #[.int .i64 s1, .bool a1, .int .i64 m1, .int .i64 q1], .int .i64 p, .int .i64 0]) ∧ Hid (Below w2.heap.size w2 w')) := hide fun X hX => (cR6 X (RJ6.out X hX.out)).mono fun e w' ⟨he, hb⟩ => ⟨he, hide (hX.out.trans (hb.mono hX.out.size))⟩
  have KR26 : Hid (∀ X g, Hid (Below w2.heap.size w2 X) → Hid (Blk X g 76 #[.int .i64 0, .bool false, .int .i64 0, .int .i64 0] ∧ w2.heap.size ≤ g) → Calls Tryd.prog 76 #[.agg #[.int .i64 1, .bool false, .int .i64 0, .int .i64 0], .slice B p d] X fun e w' => e = .returned (.tuple #[.agg #[.int .i64 s1, .bool a1, .int .i64 m1, .int .i64 q1], .int .i64 p, .int .i64 0]) ∧ Hid (Below w2.heap.size w2 w') ∧ Hid (Blk w' g 76 #[.int .i64 0, .bool false, .int .i64 0, .int .i64 0] ∧ w2.heap.size ≤ g) ∧ ((w'.cell? ⟨g, 0, none⟩ = some (.int .i64 0) ∧ w'.cell? ⟨g, 1, none⟩ = some (.bool false) ∧ w'.cell? ⟨g, 2, none⟩ = some (.int .i64 0) ∧ w'.cell? ⟨g, 3, none⟩ = some (.int .i64 0)) ∧ w'.frozen? ⟨g, 0, none⟩ = false ∧ w'.frozen? ⟨g, 1, none⟩ = false ∧ w'.frozen? ⟨g, 2, none⟩ = false ∧ w'.frozen? ⟨g, 3, none⟩ = false)) := hide fun X g hX hg => (cR6 X (RJ6.out X hX.out)).mono fun e w' ⟨he, hb⟩ => ⟨he, hide (hX.out.trans (hb.mono hX.out.size)), hide ⟨hg.out.1.below hb hg.out.1.lt, hg.out.2⟩, zs_of (hg.out.1.below hb hg.out.1.lt)⟩
  have HD06 : Hid (Below w2.heap.size w2 w2.drew) := hide (Below.refl _ _).drew
  have HD16 : Hid (Below w2.heap.size w2 (w2.alloc (.cells #[.int .i64 0, .bool false, .int .i64 0, .int .i64 0] 76)).drew) := hide ((Below.refl _ _).alloc (Nat.le_refl _) _).drew
  have HZ16 : Hid (Blk (w2.alloc (.cells #[.int .i64 0, .bool false, .int .i64 0, .int .i64 0] 76)).drew w2.heap.size 76 #[.int .i64 0, .bool false, .int .i64 0, .int .i64 0] ∧ w2.heap.size ≤ w2.heap.size) := hide ⟨Blk.drew (Blk.new w2 _ _), Nat.le_refl _⟩
  have AL6 : ∀ X o, Hid (Below w2.heap.size w2 X) → Hid (Below w2.heap.size w2 (X.alloc o)) := fun X o h => hide (h.out.alloc h.out.size o)
  have BN6 : ∀ X, Hid (Below w2.heap.size w2 X) → Hid (Blk (X.alloc (.cells #[.int .i64 0, .bool false, .int .i64 0, .int .i64 0] 76)) X.heap.size 76 #[.int .i64 0, .bool false, .int .i64 0, .int .i64 0] ∧ w2.heap.size ≤ X.heap.size) := fun X h => hide ⟨Blk.new X _ _, h.out.size⟩
  clear cR6
  refine wp_normal (R := fun a' w' => ∃ G6, a' = ({ tmps := #[.slice A n c, .int .i64 p, .agg #[.int .i64 k0, .int .i64 c0, .bool b0], undef, undef, .pointer (some ⟨w.heap.size, 0, none⟩), .bool false, .bool true, .slice B es.length d, .int .i64 j, .bool true, .pointer (some ⟨G6, 0, none⟩), .int .i64 p, .int .i64 0, undef, undef, undef, undef, undef, undef, undef, undef, undef, undef, .bool true, .tuple #[.slice B es.length d, .int .i64 j, .bool true], .slice A n c, .tuple #[.slice B es.length d, .int .i64 j, .bool true], .slice B es.length d, .int .i64 j, .bool true, .bool true, .bool false, .int .i64 at_, .int .i64 j, .int .i64 ((j : Int) + 1), .int .i64 p, .tuple #[.agg #[.int .i64 s1, .bool a1, .int .i64 m1, .int .i64 q1], .int .i64 p, .int .i64 0], .agg #[.int .i64 1, .bool false, .int .i64 0, .int .i64 0], .slice B es.length d, .int .i64 p, .slice B p d, .tuple #[.agg #[.int .i64 s1, .bool a1, .int .i64 m1, .int .i64 q1], .int .i64 p, .int .i64 0], .agg #[.int .i64 s1, .bool a1, .int .i64 m1, .int .i64 q1], .int .i64 p, .int .i64 0, undef, undef, undef, undef, undef, undef, undef, undef, undef, undef, undef, undef, undef, undef, undef, undef, undef, undef, undef, undef, undef, undef, undef, undef, undef, undef, undef, undef, undef, undef, undef, undef, undef, undef, undef, undef, undef, undef, undef, undef, undef, undef, undef, undef, undef, undef, undef, undef, undef, undef, undef, undef, undef, undef, undef, undef, undef, undef, undef, undef, undef, undef, undef, undef, undef, undef, undef, undef, undef, undef, undef, undef, undef, undef, undef, undef, undef, undef, undef, undef, undef, undef, undef, undef, undef], defers := [] } : Act) ∧ Hid (Below w2.heap.size w2 w' ∧ Blk w' G6 76 #[.int .i64 s1, .bool a1, .int .i64 m1, .int .i64 q1])) ?region6 ?post6
  case region6 =>
    go_region_held (fun w' => True) (go_keep)
      (first
        | (go_at_call 77; (with_reducible refine (KN26.out _ _ (by assumption) (by assumption)).mono ?_); rintro r vb ⟨rfl, hvb, hzb⟩)
        | (go_at_call 77; (with_reducible refine (KN16.out _ (by assumption)).mono ?_); rintro r va ⟨rfl, hva⟩)
        | (go_at_call 76; (with_reducible refine (KR26.out _ _ (by first | assumption | exact AL6 _ _ (by assumption)) (by first | assumption | exact BN6 _ (by assumption))).mono ?_); rintro r vc ⟨rfl, hvc, hzc, ⟨⟨z0, z1, z2, z3⟩, u0, u1, u2, u3⟩⟩)
        | (go_at_call 76; (with_reducible refine (KR16.out _ (by assumption)).mono ?_); rintro r vd ⟨rfl, hvd⟩))
    · exact ⟨_, rfl, hide ⟨hvd.out.alloc hvd.out.size _, Blk.new vd _ _⟩⟩
    · exact ⟨_, rfl, hide ⟨(((hvc.out.setCell (p := ⟨va.heap.size, 0, none⟩) hzc.out.2 _).setCell (p := ⟨va.heap.size, 1, none⟩) hzc.out.2 _).setCell (p := ⟨va.heap.size, 2, none⟩) hzc.out.2 _).setCell (p := ⟨va.heap.size, 3, none⟩) hzc.out.2 _, (((hzc.out.1.set_ 0 _).set_ 1 _).set_ 2 _).set_ 3 _⟩⟩
    · exact ⟨_, rfl, hide ⟨(((hvc.out.setCell (p := ⟨w2.heap.size, 0, none⟩) hzc.out.2 _).setCell (p := ⟨w2.heap.size, 1, none⟩) hzc.out.2 _).setCell (p := ⟨w2.heap.size, 2, none⟩) hzc.out.2 _).setCell (p := ⟨w2.heap.size, 3, none⟩) hzc.out.2 _, (((hzc.out.1.set_ 0 _).set_ 1 _).set_ 2 _).set_ 3 _⟩⟩
  case post6 =>
  rintro a' W6 ⟨G6, rfl, HF6⟩
  obtain ⟨hX6, kN6⟩ := HF6.out
  have hb6 := h2.trans (hX6.mono h2.size)
  have m6 := m2.below hX6 m2.lt
  have rE6 := (rE.below hX6).more hX6.size
  obtain ⟨B', hB'⟩ : ∃ B', (if d = p then B else B.map (fun x => x.add (p * 3))) = B' := ⟨_, rfl⟩
  have rS6 := rE6.evslice p j d hp hj hcap
  rw [hB'] at rS6
  have cR7 := fun w hr => pRun (s1, a1, m1, q1) B' (j - p) (d - p) ((es.take j).drop p) w hr (by omega)
  have hv1 : ckL (s1, a1, m1, q1) = 0 := by rw [← hZ1]; exact valid_aft _ hok1
  have hlen : ((es.take j).drop p).length = j - p := by simp; omega
  rw [show runV (s1, a1, m1, q1) ((es.take j).drop p) = ((s, a, m, q), j - p, 0) by unfold runV; rw [if_neg (by rw [hv1]; simp), runT_all _ _ hok2, hlen, hcat]] at cR7
  unfold lkV linkV at cR7
  simp only at cR7
  have RJ7 : Hid (∀ X, Below W6.heap.size W6 X → Reads X X.heap.size 3 B' (j - p) (evsC ((es.take j).drop p))) := hide fun X hX => (rS6.below hX).more hX.size
  have SS7 : Hid (∀ w', Below W6.heap.size W6 w' → w'.cell? ⟨G6, 0, none⟩ = some (.int .i64 s1) ∧ w'.cell? ⟨G6, 1, none⟩ = some (.bool a1) ∧ w'.cell? ⟨G6, 2, none⟩ = some (.int .i64 m1) ∧ w'.cell? ⟨G6, 3, none⟩ = some (.int .i64 q1)) := hide fun w' hw => by
    have k := kN6.below hw kN6.lt
    exact ⟨k.cell 0, k.cell 1, k.cell 2, k.cell 3⟩
  clear KN16 KN26 KR16 KR26 HD06 HD16 HZ16 AL6 BN6 RJ6
  have KR17 : Hid (∀ X, Hid (Below W6.heap.size W6 X) → Calls Tryd.prog 76 #[.agg #[.int .i64 s1, .bool a1, .int .i64 m1, .int .i64 q1], .slice B' (j - p) (d - p)] X fun e w' => e = .returned (.tuple #[.agg #[.int .i64 s, .bool a, .int .i64 m, .int .i64 q], .int .i64 ((j - p : Nat) : Int), .int .i64 0]) ∧ Hid (Below W6.heap.size W6 w') ∧ (w'.cell? ⟨G6, 0, none⟩ = some (.int .i64 s1) ∧ w'.cell? ⟨G6, 1, none⟩ = some (.bool a1) ∧ w'.cell? ⟨G6, 2, none⟩ = some (.int .i64 m1) ∧ w'.cell? ⟨G6, 3, none⟩ = some (.int .i64 q1))) := hide fun X hX => (cR7 X (RJ7.out X hX.out)).mono fun e w' ⟨he, hb⟩ => ⟨he, hide (hX.out.trans (hb.mono hX.out.size)), SS7.out _ (hX.out.trans (hb.mono hX.out.size))⟩
  have KR27 : Hid (∀ X g, Hid (Below W6.heap.size W6 X) → Hid (Blk X g 76 #[.int .i64 0, .bool false, .int .i64 0, .int .i64 0] ∧ W6.heap.size ≤ g) → Calls Tryd.prog 76 #[.agg #[.int .i64 s1, .bool a1, .int .i64 m1, .int .i64 q1], .slice B' (j - p) (d - p)] X fun e w' => e = .returned (.tuple #[.agg #[.int .i64 s, .bool a, .int .i64 m, .int .i64 q], .int .i64 ((j - p : Nat) : Int), .int .i64 0]) ∧ Hid (Below W6.heap.size W6 w') ∧ Hid (Blk w' g 76 #[.int .i64 0, .bool false, .int .i64 0, .int .i64 0] ∧ W6.heap.size ≤ g) ∧ ((w'.cell? ⟨g, 0, none⟩ = some (.int .i64 0) ∧ w'.cell? ⟨g, 1, none⟩ = some (.bool false) ∧ w'.cell? ⟨g, 2, none⟩ = some (.int .i64 0) ∧ w'.cell? ⟨g, 3, none⟩ = some (.int .i64 0)) ∧ w'.frozen? ⟨g, 0, none⟩ = false ∧ w'.frozen? ⟨g, 1, none⟩ = false ∧ w'.frozen? ⟨g, 2, none⟩ = false ∧ w'.frozen? ⟨g, 3, none⟩ = false) ∧ (w'.cell? ⟨G6, 0, none⟩ = some (.int .i64 s1) ∧ w'.cell? ⟨G6, 1, none⟩ = some (.bool a1) ∧ w'.cell? ⟨G6, 2, none⟩ = some (.int .i64 m1) ∧ w'.cell? ⟨G6, 3, none⟩ = some (.int .i64 q1))) := hide fun X g hX hg => (cR7 X (RJ7.out X hX.out)).mono fun e w' ⟨he, hb⟩ => ⟨he, hide (hX.out.trans (hb.mono hX.out.size)), hide ⟨hg.out.1.below hb hg.out.1.lt, hg.out.2⟩, zs_of (hg.out.1.below hb hg.out.1.lt), SS7.out _ (hX.out.trans (hb.mono hX.out.size))⟩
  have HD07 : Hid (Below W6.heap.size W6 W6.drew) := hide (Below.refl _ _).drew
  have HD17 : Hid (Below W6.heap.size W6 (W6.alloc (.cells #[.int .i64 0, .bool false, .int .i64 0, .int .i64 0] 76)).drew) := hide ((Below.refl _ _).alloc (Nat.le_refl _) _).drew
  have HZ17 : Hid (Blk (W6.alloc (.cells #[.int .i64 0, .bool false, .int .i64 0, .int .i64 0] 76)).drew W6.heap.size 76 #[.int .i64 0, .bool false, .int .i64 0, .int .i64 0] ∧ W6.heap.size ≤ W6.heap.size) := hide ⟨Blk.drew (Blk.new W6 _ _), Nat.le_refl _⟩
  have AL7 : ∀ X o, Hid (Below W6.heap.size W6 X) → Hid (Below W6.heap.size W6 (X.alloc o)) := fun X o h => hide (h.out.alloc h.out.size o)
  have BN7 : ∀ X, Hid (Below W6.heap.size W6 X) → Hid (Blk (X.alloc (.cells #[.int .i64 0, .bool false, .int .i64 0, .int .i64 0] 76)) X.heap.size 76 #[.int .i64 0, .bool false, .int .i64 0, .int .i64 0] ∧ W6.heap.size ≤ X.heap.size) := fun X h => hide ⟨Blk.new X _ _, h.out.size⟩
  obtain ⟨c0', c1', c2', c3'⟩ := SS7.out W6 (Below.refl _ _)
  have n1 : G6 ≠ W6.heap.size := Nat.ne_of_lt kN6.lt
  have n2 : W6.heap.size ≠ G6 := n1.symm
  have hsub : ((j - p : Nat) : Int) = (j : Int) - (p : Int) := by omega
  clear cR7
  go_wp2_with fail
  refine wp_normal (R := fun a' w' => ∃ G7, a' = ({ tmps := #[.slice A n c, .int .i64 p, .agg #[.int .i64 k0, .int .i64 c0, .bool b0], undef, undef, .pointer (some ⟨w.heap.size, 0, none⟩), .bool false, .bool true, .slice B es.length d, .int .i64 j, .bool true, .pointer (some ⟨G6, 0, none⟩), .int .i64 p, .int .i64 0, .pointer (some ⟨G7, 0, none⟩), .int .i64 ((j : Int) - (p : Int)), .int .i64 0, undef, undef, undef, undef, undef, undef, undef, .bool true, .tuple #[.slice B es.length d, .int .i64 j, .bool true], .slice A n c, .tuple #[.slice B es.length d, .int .i64 j, .bool true], .slice B es.length d, .int .i64 j, .bool true, .bool true, .bool false, .int .i64 at_, .int .i64 j, .int .i64 ((j : Int) + 1), .int .i64 p, .tuple #[.agg #[.int .i64 s1, .bool a1, .int .i64 m1, .int .i64 q1], .int .i64 p, .int .i64 0], .agg #[.int .i64 1, .bool false, .int .i64 0, .int .i64 0], .slice B es.length d, .int .i64 p, .slice B p d, .tuple #[.agg #[.int .i64 s1, .bool a1, .int .i64 m1, .int .i64 q1], .int .i64 p, .int .i64 0], .agg #[.int .i64 s1, .bool a1, .int .i64 m1, .int .i64 q1], .int .i64 p, .int .i64 0, .tuple #[.agg #[.int .i64 s, .bool a, .int .i64 m, .int .i64 q], .int .i64 ((j : Int) - (p : Int)), .int .i64 0], .agg #[.int .i64 s1, .bool a1, .int .i64 m1, .int .i64 q1], .slice B es.length d, .int .i64 p, .int .i64 j, .slice B' (j - p) (d - p), .tuple #[.agg #[.int .i64 s, .bool a, .int .i64 m, .int .i64 q], .int .i64 ((j : Int) - (p : Int)), .int .i64 0], .agg #[.int .i64 s, .bool a, .int .i64 m, .int .i64 q], .int .i64 ((j : Int) - (p : Int)), .int .i64 0, undef, undef, undef, undef, undef, undef, undef, undef, undef, undef, undef, undef, undef, undef, undef, undef, undef, undef, undef, undef, undef, undef, undef, undef, undef, undef, undef, undef, undef, undef, undef, undef, undef, undef, undef, undef, undef, undef, undef, undef, undef, undef, undef, undef, undef, undef, undef, undef, undef, undef, undef, undef, undef, undef, undef, undef, undef, undef, undef, undef, undef, undef, undef, undef, undef, undef, undef, undef, undef, undef, undef, undef, undef, undef, undef], defers := [] } : Act) ∧ Hid (Below W6.heap.size W6 w' ∧ Blk w' G7 76 #[.int .i64 s, .bool a, .int .i64 m, .int .i64 q])) ?region7 ?post7
  case region7 =>
    go_region_held (fun w' => w'.cell? ⟨G6, 0, none⟩ = some (.int .i64 s1) ∧ w'.cell? ⟨G6, 1, none⟩ = some (.bool a1) ∧ w'.cell? ⟨G6, 2, none⟩ = some (.int .i64 m1) ∧ w'.cell? ⟨G6, 3, none⟩ = some (.int .i64 q1)) (go_keep)
      (first
        | (go_at_call 76; (with_reducible refine (KR27.out _ _ (by first | assumption | exact AL7 _ _ (by assumption)) (by first | assumption | exact BN7 _ (by assumption))).mono ?_); rintro r vc ⟨rfl, hvc, hzc, ⟨⟨z0, z1, z2, z3⟩, u0, u1, u2, u3⟩, j0, j1, j2, j3⟩)
        | (go_at_call 76; (with_reducible refine (KR17.out _ (by assumption)).mono ?_); rintro r vd ⟨rfl, hvd, j0, j1, j2, j3⟩))
    · exact ⟨_, rfl, hide ⟨hvd.out.alloc hvd.out.size _, Blk.new vd _ _⟩⟩
    · exact ⟨_, rfl, hide ⟨(((hvc.out.setCell (p := ⟨W6.heap.size, 0, none⟩) hzc.out.2 _).setCell (p := ⟨W6.heap.size, 1, none⟩) hzc.out.2 _).setCell (p := ⟨W6.heap.size, 2, none⟩) hzc.out.2 _).setCell (p := ⟨W6.heap.size, 3, none⟩) hzc.out.2 _, (((hzc.out.1.set_ 0 _).set_ 1 _).set_ 2 _).set_ 3 _⟩⟩
  case post7 =>
  rintro a' W7 ⟨G7, rfl, HF7⟩
  obtain ⟨hX7, kN7⟩ := HF7.out
  have hb7 := hb6.trans (hX7.mono hb6.size)
  have m7 := m6.below hX7 m6.lt
  have rE7 := (rE6.below hX7).more hX7.size
  have cR8 := fun w hr => pRun init B j d (es.take j) w hr (by omega)
  rw [runV_init, runT_all _ _ hok, List.length_take, Nat.min_eq_left (by omega), hZ] at cR8
  unfold lkV linkV init at cR8
  simp only at cR8
  have RJ8 : Hid (∀ X, Below W7.heap.size W7 X → Reads X X.heap.size 3 B j (evsC (es.take j))) := hide fun X hX => ((rE7.evtake j (by omega)).below hX).more hX.size
  clear KR17 KR27 HD07 HD17 HZ17 AL7 BN7 RJ7 c0' c1' c2' c3' n1 n2 hB' 
  have KN18 : Hid (∀ X, Hid (Below W7.heap.size W7 X) → Calls Tryd.prog 77 #[] X fun e w' => e = .returned (.agg #[.int .i64 1, .bool false, .int .i64 0, .int .i64 0]) ∧ Hid (Below W7.heap.size W7 w')) := hide fun X hX => (CN.out X).mono fun e w' ⟨he, hb⟩ => ⟨he, hide (hX.out.trans (hb.mono hX.out.size))⟩
  have KN28 : Hid (∀ X g, Hid (Below W7.heap.size W7 X) → Hid (Blk X g 76 #[.int .i64 0, .bool false, .int .i64 0, .int .i64 0] ∧ W7.heap.size ≤ g) → Calls Tryd.prog 77 #[] X fun e w' => e = .returned (.agg #[.int .i64 1, .bool false, .int .i64 0, .int .i64 0]) ∧ Hid (Below W7.heap.size W7 w') ∧ Hid (Blk w' g 76 #[.int .i64 0, .bool false, .int .i64 0, .int .i64 0] ∧ W7.heap.size ≤ g)) := hide fun X g hX hg => (CN.out X).mono fun e w' ⟨he, hb⟩ => ⟨he, hide (hX.out.trans (hb.mono hX.out.size)), hide ⟨hg.out.1.below hb hg.out.1.lt, hg.out.2⟩⟩
  have KR18 : Hid (∀ X, Hid (Below W7.heap.size W7 X) → Calls Tryd.prog 76 #[.agg #[.int .i64 1, .bool false, .int .i64 0, .int .i64 0], .slice B j d] X fun e w' => e = .returned (.tuple #[.agg #[.int .i64 s, .bool a, .int .i64 m, .int .i64 q], .int .i64 j, .int .i64 0]) ∧ Hid (Below W7.heap.size W7 w')) := hide fun X hX => (cR8 X (RJ8.out X hX.out)).mono fun e w' ⟨he, hb⟩ => ⟨he, hide (hX.out.trans (hb.mono hX.out.size))⟩
  have KR28 : Hid (∀ X g, Hid (Below W7.heap.size W7 X) → Hid (Blk X g 76 #[.int .i64 0, .bool false, .int .i64 0, .int .i64 0] ∧ W7.heap.size ≤ g) → Calls Tryd.prog 76 #[.agg #[.int .i64 1, .bool false, .int .i64 0, .int .i64 0], .slice B j d] X fun e w' => e = .returned (.tuple #[.agg #[.int .i64 s, .bool a, .int .i64 m, .int .i64 q], .int .i64 j, .int .i64 0]) ∧ Hid (Below W7.heap.size W7 w') ∧ Hid (Blk w' g 76 #[.int .i64 0, .bool false, .int .i64 0, .int .i64 0] ∧ W7.heap.size ≤ g) ∧ ((w'.cell? ⟨g, 0, none⟩ = some (.int .i64 0) ∧ w'.cell? ⟨g, 1, none⟩ = some (.bool false) ∧ w'.cell? ⟨g, 2, none⟩ = some (.int .i64 0) ∧ w'.cell? ⟨g, 3, none⟩ = some (.int .i64 0)) ∧ w'.frozen? ⟨g, 0, none⟩ = false ∧ w'.frozen? ⟨g, 1, none⟩ = false ∧ w'.frozen? ⟨g, 2, none⟩ = false ∧ w'.frozen? ⟨g, 3, none⟩ = false)) := hide fun X g hX hg => (cR8 X (RJ8.out X hX.out)).mono fun e w' ⟨he, hb⟩ => ⟨he, hide (hX.out.trans (hb.mono hX.out.size)), hide ⟨hg.out.1.below hb hg.out.1.lt, hg.out.2⟩, zs_of (hg.out.1.below hb hg.out.1.lt)⟩
  have HD08 : Hid (Below W7.heap.size W7 W7.drew) := hide (Below.refl _ _).drew
  have HD18 : Hid (Below W7.heap.size W7 (W7.alloc (.cells #[.int .i64 0, .bool false, .int .i64 0, .int .i64 0] 76)).drew) := hide ((Below.refl _ _).alloc (Nat.le_refl _) _).drew
  have HZ18 : Hid (Blk (W7.alloc (.cells #[.int .i64 0, .bool false, .int .i64 0, .int .i64 0] 76)).drew W7.heap.size 76 #[.int .i64 0, .bool false, .int .i64 0, .int .i64 0] ∧ W7.heap.size ≤ W7.heap.size) := hide ⟨Blk.drew (Blk.new W7 _ _), Nat.le_refl _⟩
  have AL8 : ∀ X o, Hid (Below W7.heap.size W7 X) → Hid (Below W7.heap.size W7 (X.alloc o)) := fun X o h => hide (h.out.alloc h.out.size o)
  have BN8 : ∀ X, Hid (Below W7.heap.size W7 X) → Hid (Blk (X.alloc (.cells #[.int .i64 0, .bool false, .int .i64 0, .int .i64 0] 76)) X.heap.size 76 #[.int .i64 0, .bool false, .int .i64 0, .int .i64 0] ∧ W7.heap.size ≤ X.heap.size) := fun X h => hide ⟨Blk.new X _ _, h.out.size⟩
  clear cR8
  go_wp2_with fail
  refine wp_normal (R := fun a' w' => ∃ G8, a' = ({ tmps := #[.slice A n c, .int .i64 p, .agg #[.int .i64 k0, .int .i64 c0, .bool b0], undef, undef, .pointer (some ⟨w.heap.size, 0, none⟩), .bool false, .bool true, .slice B es.length d, .int .i64 j, .bool true, .pointer (some ⟨G6, 0, none⟩), .int .i64 p, .int .i64 0, .pointer (some ⟨G7, 0, none⟩), .int .i64 ((j : Int) - (p : Int)), .int .i64 0, .pointer (some ⟨G8, 0, none⟩), .int .i64 j, .int .i64 0, undef, undef, undef, undef, .bool true, .tuple #[.slice B es.length d, .int .i64 j, .bool true], .slice A n c, .tuple #[.slice B es.length d, .int .i64 j, .bool true], .slice B es.length d, .int .i64 j, .bool true, .bool true, .bool false, .int .i64 at_, .int .i64 j, .int .i64 ((j : Int) + 1), .int .i64 p, .tuple #[.agg #[.int .i64 s1, .bool a1, .int .i64 m1, .int .i64 q1], .int .i64 p, .int .i64 0], .agg #[.int .i64 1, .bool false, .int .i64 0, .int .i64 0], .slice B es.length d, .int .i64 p, .slice B p d, .tuple #[.agg #[.int .i64 s1, .bool a1, .int .i64 m1, .int .i64 q1], .int .i64 p, .int .i64 0], .agg #[.int .i64 s1, .bool a1, .int .i64 m1, .int .i64 q1], .int .i64 p, .int .i64 0, .tuple #[.agg #[.int .i64 s, .bool a, .int .i64 m, .int .i64 q], .int .i64 ((j : Int) - (p : Int)), .int .i64 0], .agg #[.int .i64 s1, .bool a1, .int .i64 m1, .int .i64 q1], .slice B es.length d, .int .i64 p, .int .i64 j, .slice B' (j - p) (d - p), .tuple #[.agg #[.int .i64 s, .bool a, .int .i64 m, .int .i64 q], .int .i64 ((j : Int) - (p : Int)), .int .i64 0], .agg #[.int .i64 s, .bool a, .int .i64 m, .int .i64 q], .int .i64 ((j : Int) - (p : Int)), .int .i64 0, .tuple #[.agg #[.int .i64 s, .bool a, .int .i64 m, .int .i64 q], .int .i64 j, .int .i64 0], .agg #[.int .i64 1, .bool false, .int .i64 0, .int .i64 0], .slice B es.length d, .int .i64 j, .slice B j d, .tuple #[.agg #[.int .i64 s, .bool a, .int .i64 m, .int .i64 q], .int .i64 j, .int .i64 0], .agg #[.int .i64 s, .bool a, .int .i64 m, .int .i64 q], .int .i64 j, .int .i64 0, undef, undef, undef, undef, undef, undef, undef, undef, undef, undef, undef, undef, undef, undef, undef, undef, undef, undef, undef, undef, undef, undef, undef, undef, undef, undef, undef, undef, undef, undef, undef, undef, undef, undef, undef, undef, undef, undef, undef, undef, undef, undef, undef, undef, undef, undef, undef, undef, undef, undef, undef, undef, undef, undef, undef, undef, undef, undef, undef, undef, undef, undef, undef, undef, undef, undef], defers := [] } : Act) ∧ Hid (Below W7.heap.size W7 w' ∧ Blk w' G8 76 #[.int .i64 s, .bool a, .int .i64 m, .int .i64 q])) ?region8 ?post8
  case region8 =>
    go_region_held (fun w' => True) (go_keep)
      (first
        | (go_at_call 77; (with_reducible refine (KN28.out _ _ (by assumption) (by assumption)).mono ?_); rintro r vb ⟨rfl, hvb, hzb⟩)
        | (go_at_call 77; (with_reducible refine (KN18.out _ (by assumption)).mono ?_); rintro r va ⟨rfl, hva⟩)
        | (go_at_call 76; (with_reducible refine (KR28.out _ _ (by first | assumption | exact AL8 _ _ (by assumption)) (by first | assumption | exact BN8 _ (by assumption))).mono ?_); rintro r vc ⟨rfl, hvc, hzc, ⟨⟨z0, z1, z2, z3⟩, u0, u1, u2, u3⟩⟩)
        | (go_at_call 76; (with_reducible refine (KR18.out _ (by assumption)).mono ?_); rintro r vd ⟨rfl, hvd⟩))
    · exact ⟨_, rfl, hide ⟨hvd.out.alloc hvd.out.size _, Blk.new vd _ _⟩⟩
    · exact ⟨_, rfl, hide ⟨(((hvc.out.setCell (p := ⟨va.heap.size, 0, none⟩) hzc.out.2 _).setCell (p := ⟨va.heap.size, 1, none⟩) hzc.out.2 _).setCell (p := ⟨va.heap.size, 2, none⟩) hzc.out.2 _).setCell (p := ⟨va.heap.size, 3, none⟩) hzc.out.2 _, (((hzc.out.1.set_ 0 _).set_ 1 _).set_ 2 _).set_ 3 _⟩⟩
    · exact ⟨_, rfl, hide ⟨(((hvc.out.setCell (p := ⟨W7.heap.size, 0, none⟩) hzc.out.2 _).setCell (p := ⟨W7.heap.size, 1, none⟩) hzc.out.2 _).setCell (p := ⟨W7.heap.size, 2, none⟩) hzc.out.2 _).setCell (p := ⟨W7.heap.size, 3, none⟩) hzc.out.2 _, (((hzc.out.1.set_ 0 _).set_ 1 _).set_ 2 _).set_ 3 _⟩⟩
  case post8 =>
  rintro a' W8 ⟨G8, rfl, HF8⟩
  obtain ⟨hX8, kN8⟩ := HF8.out
  have hb8 := hb7.trans (hX8.mono hb7.size)
  have m8 := m7.below hX8 m7.lt
  have k7 := kN7.below hX8 kN7.lt
  clear KN18 KN28 KR18 KR28 HD08 HD18 HZ18 AL8 BN8 RJ8
  have hv : ckL (s, a, m, q) = 0 := by rw [← hZ]; exact valid_aft _ hok
  have cC := fun w => pCheck s a m q w
  rw [show chkL s a m q = 0 from hv] at cC
  have CC := Lib.hid cC
  unfold linkV at CC
  have hq : ∀ w, (binOp .neq 76 (.agg #[.int .i64 s, .bool a, .int .i64 m, .int .i64 q]) (.agg #[.int .i64 s, .bool a, .int .i64 m, .int .i64 q])).run Tryd.prog w = .ok (.bool false) w := fun w => by rw [neLk]; simp
  have b0 : W8.cell? ⟨G7, 0, none⟩ = some (.int .i64 s) := k7.cell 0
  have b1 : W8.cell? ⟨G7, 1, none⟩ = some (.bool a) := k7.cell 1
  have b2 : W8.cell? ⟨G7, 2, none⟩ = some (.int .i64 m) := k7.cell 2
  have b3 : W8.cell? ⟨G7, 3, none⟩ = some (.int .i64 q) := k7.cell 3
  have y0 : W8.cell? ⟨G8, 0, none⟩ = some (.int .i64 s) := kN8.cell 0
  have y1 : W8.cell? ⟨G8, 1, none⟩ = some (.bool a) := kN8.cell 1
  have y2 : W8.cell? ⟨G8, 2, none⟩ = some (.int .i64 m) := kN8.cell 2
  have y3 : W8.cell? ⟨G8, 3, none⟩ = some (.int .i64 q) := kN8.cell 3
  have hbad : s = 3 → ∀ e : Ev, stE (s, a, m, q) e ≠ 0 := fun hs e h => by
    rcases step_cases h with ⟨_, h, _⟩ | ⟨_, h, _⟩ | ⟨_, h, _⟩ | ⟨_, h, _⟩ | ⟨_, h, _⟩ <;> (simp only at h; omega)
  have hmay : s = 3 → mayV (s, a, m, q) = ([], 0) := fun hs => by
    have hf : ∀ k, mayF (s, a, m, q) k = false := fun k => by
      unfold mayF
      simpa using hbad hs _
    unfold mayV
    rw [if_neg (by rw [hv]; simp)]
    simp [mayL, hf]
  have H8 := Lib.hid (And.intro hb8 (And.intro m8 (And.intro kN8 (And.intro hbad hmay))))
  clear cC hb8 m8 k7 kN8 hbad hmay hX8 hb7 m7 rE7 hX7 kN7 hb6 m6 rE6 rS6 hX6 kN6 h2 m2 rE hok hok1 hok2 hcat hZ hZ1 hv hv1 hlen
  go_wp2_with fail
  (with_reducible refine (CC.out _).mono ?_); rintro e x1 ⟨rfl, f1⟩
  clear b0 b1 b2 b3 y0 y1 y2 y3
  have kC := H8.out.2.2.1.below f1 H8.out.2.2.1.lt
  have mE := H8.out.2.1.below f1 H8.out.2.1.lt
  have hb := H8.out.1.trans (f1.mono H8.out.1.size)
  have y0 : x1.cell? ⟨G8, 0, none⟩ = some (.int .i64 s) := kC.cell 0
  have y1 : x1.cell? ⟨G8, 1, none⟩ = some (.bool a) := kC.cell 1
  have y2 : x1.cell? ⟨G8, 2, none⟩ = some (.int .i64 m) := kC.cell 2
  have y3 : x1.cell? ⟨G8, 3, none⟩ = some (.int .i64 q) := kC.cell 3
  have e0 : x1.cell? ⟨w.heap.size, 0, none⟩ = some (.int .i64 k0) := mE.cell 0
  have e1 : x1.cell? ⟨w.heap.size, 1, none⟩ = some (.int .i64 c0) := mE.cell 1
  have e2 : x1.cell? ⟨w.heap.size, 2, none⟩ = some (.bool b0) := mE.cell 2
  have H9 := Lib.hid (And.intro kC hb)
  clear kC mE hb f1
  by_cases hs : s = 3
  · subst hs
    have hE := H8.out.2.2.2.1 rfl (k0, c0, b0)
    have cS := fun w => pStep 3 a m q k0 c0 b0 w
    obtain ⟨E, hEE⟩ : ∃ E, stepE 3 a m q k0 c0 b0 = E := ⟨_, rfl⟩
    obtain ⟨⟨s9, a9, m9, q9⟩, hN9⟩ : ∃ N, stepL 3 a m q k0 c0 b0 = N := ⟨_, rfl⟩
    have hE' : E ≠ 0 := by rw [← hEE]; exact hE
    rw [hEE, hN9] at cS
    unfold lkV linkV evV at cS
    simp only at cS
    have cM := fun w => pMay (3, a, m, q) w
    rw [H8.out.2.2.2.2 rfl] at cM
    unfold MayPost at cM
    have CS := Lib.hid cS
    have CMy := Lib.hid cM
    have t2 : ((E : Int) != 0) = true := by rw [bne_iff_ne]; omega
    clear cS cM hE hEE hN9
    go_wp2_with fail
    (with_reducible refine (CS.out _).mono ?_); rintro e x2 ⟨rfl, f2⟩
    clear y0 y1 y2 y3 e0 e1 e2
    have f2 := f2.alloc f2.size (.cells #[.int .i64 s9, .bool a9, .int .i64 m9, .int .i64 q9] 76)
    obtain ⟨X2, hX2⟩ : ∃ X2, x2.alloc (.cells #[.int .i64 s9, .bool a9, .int .i64 m9, .int .i64 q9] 76) = X2 := ⟨_, rfl⟩
    rw [hX2] at f2
    have kC := H9.out.1.below f2 H9.out.1.lt
    have hb := H9.out.2.trans (f2.mono H9.out.2.size)
    have y0 : X2.cell? ⟨G8, 0, none⟩ = some (.int .i64 3) := kC.cell 0
    have y1 : X2.cell? ⟨G8, 1, none⟩ = some (.bool a) := kC.cell 1
    have y2 : X2.cell? ⟨G8, 2, none⟩ = some (.int .i64 m) := kC.cell 2
    have y3 : X2.cell? ⟨G8, 3, none⟩ = some (.int .i64 q) := kC.cell 3
    clear kC f2
    go_wp2_with fail
    (with_reducible refine (CMy.out _).mono ?_); rintro e x3 ⟨A3, c3, rfl, _, _, f3⟩
    have hb3 := hb.trans (f3.mono hb.size)
    go_wp2_with fail
    go_ret
    exact ⟨rfl, hb3⟩
  · have t1 : (s != 3) = true := bneT hs
    go_wp2_with fail
    go_ret
    exact ⟨rfl, H9.out.2⟩
end
end Go.Proofs.YtepemdmjbfoiaaaDoor
