/-
  What the walks of the statements on responses ask of a world. What a row's list of variables gives the walks on responses: the tables of the library and of the package, two errors. What handlers ask of a world, out of what a row lays. What a response that came in as an argument gives. What a request, what was found, and an outcome that came in as arguments give.
-/
import Derived.Test.YthhlnpfcpgfcfaaGreatDoorRs7
import Derived.Test.YthhlnpfcpgfcfaaGreatDoorCb
import Derived.Lib.LaidU8
import Derived.Stop.LaidErr
import Derived.LaidSub
import Derived.Shelf.Vars
import Derived.Test.YthhlnpfcpgfcfaaGreatDoorHaN
import Derived.Test.YthhlnpfcpgfcfaaGreatDoorRs2
import Derived.Deep.SlicePairs
import Derived.Deep.Strs
import Derived.SliceStrings
import Derived.OpenShut
namespace Go.Proofs.YthhlnpfcpgfcfaaGreatDoor

section
open Go.RowKit

/-- all that the walks of these statements ask -/
structure Tab12 (w : World) : Prop where
  r : TabR w
  m : MaxL w
  e : Errs w
theorem Tab12.below {w w' : World} (h : Tab12 w) (hb : Below w.heap.size w w') : Tab12 w' := ⟨h.r.below hb, h.m.below hb, h.e.below hb⟩
def Awake12 : Prop := ∀ X, Tab12 X → Calls Tryz.prog 7 #[] X fun e w' => e = .returned (.bool true) ∧ Below X.heap.size X w'
end

section
open Go.RowKit Go.Lib

theorem gPow : Tryz.prog.globalNamed "internal/strconv.uint64pow10" = some 3 := by kernel_rfl
theorem gPowType : (Tryz.prog.globals[3]?).map (·.type) = some 178 := by kernel_rfl
theorem gTz : Tryz.prog.globalNamed "math/bits.deBruijn64tab" = some 10 := by kernel_rfl
theorem gTzType : (Tryz.prog.globals[10]?).map (·.type) = some 214 := by kernel_rfl
theorem gAsc : Tryz.prog.globalNamed "strings.asciiSpace" = some 1 := by kernel_rfl
theorem gAscType : (Tryz.prog.globals[1]?).map (·.type) = some 145 := by kernel_rfl
theorem cells_u8 : Tryz.prog.cellsOf 5 = 1 := by kernel_rfl
theorem cells_u64 : Tryz.prog.cellsOf 139 = 1 := by kernel_rfl
theorem cells_a20 : Tryz.prog.cellsOf 178 = 20 := by kernel_rfl
theorem cells_a64 : Tryz.prog.cellsOf 214 = 64 := by kernel_rfl
theorem cells_a256 : Tryz.prog.cellsOf 145 = 256 := by kernel_rfl
theorem powData : (Lib.tabData .u64 Lib.pow10Tab : DataW Unit) = Rows.laid_internal_strconv_uint64pow10 := rfl
theorem tzData : (Lib.tabData .u8 (Lib.deBruijn64tab.map Int.ofNat) : DataW Unit) = Rows.laid_math_bits_deBruijn64tab := by kernel_rfl
theorem ascData : (Lib.tabData .u8 Lib.asciiSpaceTab : DataW Unit) = Rows.laid_strings_asciiSpace := by kernel_rfl
theorem firstDataR : (Lib.firstData : DataW Unit) = Rows.laid_unicode_utf8_first := by kernel_rfl
theorem acceptDataR : (Lib.acceptData : DataW Unit) = Rows.laid_unicode_utf8_acceptRanges := by kernel_rfl
theorem whiteDataR : (Lib.whiteData : DataW Unit) = Rows.laid_unicode_White_Space := by kernel_rfl
theorem u8X : U8Extra Tryz.prog Tryz.lays163_ren := { n3 := by kernel_rfl, n4 := by kernel_rfl, y3 := by kernel_rfl, y4 := by kernel_rfl, c5 := by kernel_rfl, c119 := by kernel_rfl, c138 := by kernel_rfl }
theorem whiteX : WhiteExtra Tryz.prog Tryz.lays163_ren := { n6 := by kernel_rfl, y6 := by kernel_rfl, c3 := by kernel_rfl, c49 := by kernel_rfl, c193 := by kernel_rfl, c194 := by kernel_rfl, c196 := by kernel_rfl, c198 := by kernel_rfl }
theorem gCodes : Tryz.prog.globalNamed "waypost/respond.codes" = some 0 := by kernel_rfl
theorem gCodesType : (Tryz.prog.globals[0]?).map (·.type) = some 106 := by kernel_rfl
theorem cells_entry : Tryz.prog.cellsOf 105 = 2 := by kernel_rfl
theorem cells_int1 : Tryz.prog.cellsOf 3 = 1 := by kernel_rfl
theorem cells_str1 : Tryz.prog.cellsOf 9 = 1 := by kernel_rfl
theorem cells_a15 : Tryz.prog.cellsOf 106 = 30 := by kernel_rfl
set_option maxRecDepth 100000 in
/-- an entry that reads as a code with its reason holds them -/
theorem entry_of {w : World} {fuel : Nat} {cs : List Value} {d : DataW Unit} {q : List MemPlace} (h : DataW.trod (fun _ => ()) Tryz.prog w 0 (fun _ => true) false fuel 105 cs = some (d, q)) :
    ∃ (c : Int) (s : ByteArray), cs = [.int .i64 c, .string s] ∧ d = .agg [.lit (.int .i64 c), .lit (.string s.data.toList)] := by
  obtain ⟨xs, n, rfl, hx, hl, hxl, hall⟩ := DataW.trod_struct Tryz.underlying105 h
  rw [cells_entry] at hl
  match xs, hxl, cs, hl with
  | [y0, y1], _, [v0, v1], _ =>
    have g0 := hall 0 _ rfl
    have g1 := hall 1 _ rfl
    simp [cells_int1, cells_str1] at g0 g1
    obtain ⟨c, q0, e0, _⟩ := DataW.trod_int Tryz.underlying3 g0
    obtain ⟨s, q1, e1, _⟩ := DataW.trod_string Tryz.underlying9 g1
    simp only [List.cons.injEq, and_true] at q0 q1
    subst q0 q1 e0 e1
    refine ⟨c, s, rfl, ?_⟩
    have := congrArg Prod.fst hx
    simpa using this
theorem array_len {P : Program} {w : World} {fuel : Nat} {t e : TypeId} {n : Nat} {cs : List Value} {ds : List (DataW Unit)} {p : List MemPlace} (ht : P.underlying t = some (.array n e))
    (h : DataW.trod (fun _ => ()) P w 0 (fun _ => true) false fuel t cs = some (.agg ds, p)) : cs.length = P.cellsOf t := by
  cases fuel with
  | zero => simp [DataW.trod] at h
  | succ fuel =>
    simp only [DataW.trod, ht] at h
    split at h
    · rename_i hc
      exact hc
    · cases h
def codesD : List (DataW Unit) := (List.range 15).map fun i => .agg [.lit (.int .i64 (codeN i : Nat)), .lit (.string (codeS i))]
theorem codesData : (.agg codesD : DataW Unit) = Rows.laid_waypost_respond_codes := by kernel_rfl
set_option maxRecDepth 100000 in
theorem codes_of_reads {w : World} (h : VarReads Tryz.prog w "waypost/respond.codes" (.agg codesD)) : Codes w := by
  obtain ⟨g, t, cs, fuel, p, hg, hty, hvar, hd⟩ := h
  obtain rfl := Option.some.inj (gCodes.symm.trans hg)
  obtain rfl := Option.some.inj (gCodesType.symm.trans hty)
  have hlen : cs.size = 30 := by
    have := array_len Tryz.underlying106 hd
    rw [cells_a15] at this
    simpa using this
  have hev : ∀ i, i < 15 → (cs.toList.drop (i * 2)).take 2 = [.int .i64 (codeN i : Nat), .string (bs (codeS i))] := by
    intro i hi
    obtain ⟨f2, d, q, hds, ht⟩ := array_elem Tryz.underlying106 hd i hi
    rw [cells_entry] at ht
    obtain ⟨c, s, e1, e2⟩ := entry_of ht
    have hd2 : codesD[i]? = some (.agg [.lit (.int .i64 (codeN i : Nat)), .lit (.string (codeS i))]) := by simp [codesD, hi]
    rw [hd2] at hds
    injection hds with hds
    rw [e2] at hds
    simp only [DataW.agg.injEq, List.cons.injEq, DataW.lit.injEq, Lit.int.injEq, Lit.string.injEq, true_and, and_true] at hds
    rw [e1, ← hds.1, show s = bs (codeS i) from ba_ext (by rw [bs_list]; exact hds.2.symm)]
  have hcs : cs = codesC := by
    apply Array.ext_getElem?
    intro k
    by_cases hk : k < 30
    · have h1 := hev (k / 2) (by omega)
      obtain ⟨q0, q1⟩ := codesC_at (k / 2) (by omega)
      have h0 : cs.toList[k / 2 * 2]? = some (.int .i64 (codeN (k / 2) : Nat)) ∧ cs.toList[k / 2 * 2 + 1]? = some (.string (bs (codeS (k / 2)))) := by
        have e0 := congrArg (fun l : List Value => l[0]?) h1
        have e1 := congrArg (fun l : List Value => l[1]?) h1
        simp only [List.getElem?_take, List.getElem?_drop] at e0 e1
        exact ⟨by simpa using e0, by simpa using e1⟩
      rcases Nat.mod_two_eq_zero_or_one k with hm | hm
      · have ek : k / 2 * 2 = k := by omega
        rw [ek] at h0 q0
        rw [q0, ← Array.getElem?_toList, h0.1]
      · have ek : k / 2 * 2 + 1 = k := by omega
        rw [ek] at h0 q1
        rw [q1, ← Array.getElem?_toList, h0.2]
    · rw [Array.getElem?_eq_none (by omega), Array.getElem?_eq_none (by
        have : codesC.size = 30 := by kernel_rfl
        omega)]
  subst hcs
  unfold World.var? at hvar
  rw [gCodes] at hvar
  simp only [Option.bind_some] at hvar
  split at hvar
  · rename_i cs' t' fr' hh
    injection hvar with hvar
    subst hvar
    exact ⟨t', fr', hh⟩
  · cases hvar
theorem gErr : Tryz.prog.globalNamed "strconv.ErrSyntax" = some 5 := by kernel_rfl
theorem gErrR : Tryz.prog.globalNamed "strconv.ErrRange" = some 6 := by kernel_rfl
theorem starE : "*" ++ "errors.errorString" = "*errors.errorString" := by decide
theorem rowErr (u : TypeId) (h : Tryz.prog.typeName? 3 u = some "*errors.errorString") : u = 210 :=
  typeName_ptr_named (nm := "errors.errorString") (by rw [starE]; kernel_rfl) (by kernel_rfl) (by decide) u (by rw [starE]; exact h)
theorem errs_of_laid {W : World} {laid : List (String × DataW Unit)} (h : laidMet Tryz.prog laid W) (h1 : (laid.filter fun x => x.1 == "strconv.ErrSyntax") = [("strconv.ErrSyntax", Rows.laid_strconv_ErrSyntax)]) (h3 : (laid.filter fun x => x.1 == "strconv.ErrRange") = [("strconv.ErrRange", Rows.laid_strconv_ErrRange)]) : Errs W := by
  have h2 := h.filter fun x => x.1 == "strconv.ErrSyntax"
  rw [h1] at h2
  have h4 := h.filter fun x => x.1 == "strconv.ErrRange"
  rw [h3] at h4
  obtain ⟨a, s, hv, _⟩ := laid_sentinel h2 gErr (by kernel_rfl) Tryz.underlying74 rowErr Tryz.underlying210 Tryz.underlying212 rfl rfl Tryz.underlying9 (by kernel_rfl) (by kernel_rfl)
  obtain ⟨b, s2, hv2, _⟩ := laid_sentinel h4 gErrR (by kernel_rfl) Tryz.underlying74 rowErr Tryz.underlying210 Tryz.underlying212 rfl rfl Tryz.underlying9 (by kernel_rfl) (by kernel_rfl)
  exact ⟨⟨_, _, World.var?_cell gErr hv 0⟩, ⟨_, _, World.var?_cell gErrR hv2 0⟩⟩
theorem tabs_of_laid {W : World} {laid : List (String × DataW Unit)} (h : laidMet Tryz.prog laid W) (h1 : ("internal/strconv.uint64pow10", Rows.laid_internal_strconv_uint64pow10) ∈ laid) (h2 : ("math/bits.deBruijn64tab", Rows.laid_math_bits_deBruijn64tab) ∈ laid) : Tabs W := by
  refine ⟨tabIs_of_reads gPow gPowType Tryz.underlying178 Tryz.underlying139 cells_u64 cells_a20 (by rw [powData]; exact Lib.laidMet.reads h h1), fun j hj => ?_⟩
  have ht : Lib.TabIs Tryz.prog W "math/bits.deBruijn64tab" .u8 (Lib.deBruijn64tab.map Int.ofNat) := tabIs_of_reads gTz gTzType Tryz.underlying214 Tryz.underlying5 cells_u8 cells_a64 (by rw [tzData]; exact Lib.laidMet.reads h h2)
  have := ht.cell gTz j (by simpa using hj)
  rw [this]
  simp [List.getD_eq_getElem?_getD, List.getElem?_map, List.getElem?_eq_getElem hj]
theorem maxL_of_shape {W : World} (hs : W.ShapedOpen Tryz.prog) : MaxL W :=
  cell_of_shapedOpen_int (zero := #[.int .i64 0]) (t := 3) hs (of_decide_eq_true (by kernel_rfl)) (by kernel_rfl) rfl (by kernel_rfl) (by kernel_rfl) Tryz.underlying3
theorem tab12_of {W : World} {laid : List (String × DataW Unit)} (h : laidMet Tryz.prog laid W) (hs : W.ShapedOpen Tryz.prog) (h1 : ("internal/strconv.uint64pow10", Rows.laid_internal_strconv_uint64pow10) ∈ laid) (h2 : ("math/bits.deBruijn64tab", Rows.laid_math_bits_deBruijn64tab) ∈ laid)
    (h3 : ("strings.asciiSpace", Rows.laid_strings_asciiSpace) ∈ laid) (h4 : ("unicode/utf8.first", Rows.laid_unicode_utf8_first) ∈ laid) (h5 : ("unicode/utf8.acceptRanges", Rows.laid_unicode_utf8_acceptRanges) ∈ laid) (h6 : ("unicode.White_Space", Rows.laid_unicode_White_Space) ∈ laid) (h7 : ("waypost/respond.codes", Rows.laid_waypost_respond_codes) ∈ laid)
    (h8 : (laid.filter fun x => x.1 == "strconv.ErrSyntax") = [("strconv.ErrSyntax", Rows.laid_strconv_ErrSyntax)]) (h9 : (laid.filter fun x => x.1 == "strconv.ErrRange") = [("strconv.ErrRange", Rows.laid_strconv_ErrRange)]) : Tab12 W :=
  ⟨⟨codes_of_reads (by rw [codesData]; exact Lib.laidMet.reads h h7),
    ⟨tabIs_of_reads gAsc gAscType Tryz.underlying145 Tryz.underlying5 cells_u8 cells_a256 (by rw [ascData]; exact Lib.laidMet.reads h h3),
      utf8Tabs_of_reads { Tryz.lays163 with } u8X (by rw [firstDataR]; exact Lib.laidMet.reads h h4) (by rw [acceptDataR]; exact Lib.laidMet.reads h h5),
      whiteTab_of_reads { Tryz.lays163 with } whiteX (by rw [whiteDataR]; exact Lib.laidMet.reads h h6)⟩,
    tabs_of_laid h h1 h2⟩, maxL_of_shape hs, errs_of_laid h h8 h9⟩
end

section
open Go.RowKit

theorem tab42_of {W : World} {laid : List (String × DataW Unit)} (h : laidMet Tryz.prog laid W) (hs : W.ShapedOpen Tryz.prog) (h1 : ("internal/strconv.uint64pow10", Rows.laid_internal_strconv_uint64pow10) ∈ laid) (h2 : ("math/bits.deBruijn64tab", Rows.laid_math_bits_deBruijn64tab) ∈ laid) (h7 : ("waypost/respond.codes", Rows.laid_waypost_respond_codes) ∈ laid) : Tab42 W :=
  ⟨codes_of_reads (by rw [codesData]; exact Lib.laidMet.reads h h7), tabs_of_laid h h1 h2, maxL_of_shape hs⟩
end

section
open Go.RowKit Go.WideShapes Go.ChangeShapes

section
variable {H : Type} {enc : TypeId × Value → H}
theorem open_fldsT {P : Program} {t e s : TypeId} {f0 f1 : Field} {W : World} {v : Value} (ht : P.underlying t = some (.slice e)) (he : P.underlying e = some (.struct #[f0, f1])) (hc : P.cellsOf e = 2)
    (o0 : f0.offset = 0) (o1 : f1.offset = 1) (t0 : f0.type = s) (t1 : f1.type = s) (hs : P.underlying s = some .string) (cs : P.cellsOf s = 1)
    {fuel : Nat} {x : DataW H × List MemPlace} (hf : DataW.trod enc P W 0 (fun _ => true) true fuel t [v] = some x) :
    ∃ (A : Option Addr) (len c : Nat) (l : List Fld), v = .slice A len c ∧ len ≤ maxLen ∧ len ≤ c ∧ Reads W W.heap.size 2 A len (fldsC l) ∧ ∀ f ∈ l, f.1.length ≤ maxLen ∧ f.2.length ≤ maxLen := by
  rcases Go.Deep.open_slice_pairs ht he hc o0 o1 (by rw [t0]; exact cs) (by rw [t1]; exact cs) hf with ⟨hcs, _⟩ | ⟨a, len, cap, m, n, V0, V1, D0, D1, P0, P1, hcs, _, hl, hm, hz, _, hcell⟩
  · simp only [List.cons.injEq, and_true] at hcs
    subst hcs
    exact ⟨none, 0, 0, [], rfl, Nat.zero_le _, Nat.le_refl _, Reads.none_, by simp⟩
  · simp only [List.cons.injEq, and_true] at hcs
    subst hcs
    simp only [if_true] at hz
    have each : ∀ i, i < len → ∃ x : ByteArray × ByteArray, W.cell? (a.add (i * 2)) = some (.string x.1) ∧ W.cell? (a.add (i * 2 + 1)) = some (.string x.2) ∧ x.1.size ≤ maxLen ∧ x.2.size ≤ maxLen := by
      intro i hi
      obtain ⟨c0, c1, d0, d1⟩ := hcell i (by omega)
      rw [t0] at d0
      rw [t1] at d1
      obtain ⟨s0, e0, _, w0⟩ := DataW.trod_string hs d0
      obtain ⟨s1, e1, _, w1⟩ := DataW.trod_string hs d1
      simp only [List.cons.injEq, and_true] at e0 e1
      rw [e0] at c0
      rw [e1] at c1
      exact ⟨(s0, s1), c0, c1, w0, w1⟩
    let g : Nat → Fld := fun i => if h : i < len then ((each i h).choose.1.data.toList, (each i h).choose.2.data.toList) else ([], [])
    have hg : ∀ i, i < len → W.cell? (a.add (i * 2)) = some (.string (bs (g i).1)) ∧ W.cell? (a.add (i * 2 + 1)) = some (.string (bs (g i).2)) ∧ (g i).1.length ≤ maxLen ∧ (g i).2.length ≤ maxLen := by
      intro i hi
      have hsp := (each i hi).choose_spec
      have eg : g i = ((each i hi).choose.1.data.toList, (each i hi).choose.2.data.toList) := dif_pos hi
      rw [eg]
      exact ⟨hsp.1, hsp.2.1, by rw [size_l]; exact hsp.2.2.1, by rw [size_l]; exact hsp.2.2.2⟩
    refine ⟨some a, len, cap, (List.range len).map g, rfl, by omega, hl, ⟨by rw [fldsC_len]; simp, fun h0 => ⟨a, rfl, ?_, ?_⟩⟩, fun f hf2 => ?_⟩
    · have h1 := (hg 0 (by omega)).1
      have := World.block_lt_of_cell? _ _ h1
      rwa [block_of_add] at this
    · intro j u hu
      have hj : j < len * 2 := by
        have := (List.getElem?_eq_some_iff.1 hu).1
        rw [fldsC_len] at this
        simpa using this
      have hi : j / 2 < ((List.range len).map g).length := by simp; omega
      obtain ⟨q0, q1⟩ := fldsC_get ((List.range len).map g) (j / 2) hi
      have eg : ((List.range len).map g)[j / 2] = g (j / 2) := by simp
      rw [eg] at q0 q1
      obtain ⟨h0, h1, _⟩ := hg (j / 2) (by omega)
      rcases Nat.mod_two_eq_zero_or_one j with hm2 | hm2
      · have ej : j / 2 * 2 = j := by omega
        rw [ej] at q0 h0
        rw [h0, ← q0, hu]
      · have ej : j / 2 * 2 + 1 = j := by omega
        rw [ej] at q1 h1
        rw [h1, ← q1, hu]
    · obtain ⟨i, hi, rfl⟩ := List.mem_map.1 hf2
      exact ⟨(hg i (List.mem_range.1 hi)).2.2.1, (hg i (List.mem_range.1 hi)).2.2.2⟩

set_option maxRecDepth 100000 in
theorem open_rsp {W : World} {base : Nat} {v : Value} {d : DataW H} {p : List MemPlace} (hval : Value.okWide Tryz.prog W .any base 24 v) (h : DataW.Trod enc Tryz.prog W 0 (fun _ => true) true 24 v d p) :
    ∃ (r : Rsp) (A : Option Addr) (len c : Nat), v = rspV r A len c ∧ len ≤ maxLen ∧ len ≤ c ∧ Reads W W.heap.size 2 A len (fldsC r.flds) ∧ r.body.length ≤ maxLen ∧ ∀ f ∈ r.flds, f.1.length ≤ maxLen ∧ f.2.length ≤ maxLen := by
  have ce : Tryz.prog.cellsOf 24 = 5 := by kernel_rfl
  have c1 : Tryz.prog.cellsOf 3 = 1 := by kernel_rfl
  have c2 : Tryz.prog.cellsOf 22 = 1 := by kernel_rfl
  have c3 : Tryz.prog.cellsOf 9 = 1 := by kernel_rfl
  have c4 : Tryz.prog.cellsOf 4 = 1 := by kernel_rfl
  obtain ⟨cs, rfl, hsz⟩ := okWide_struct Tryz.underlying24 hval
  rw [ce] at hsz
  obtain ⟨fuel, hf⟩ := h
  obtain ⟨xs, k, hk, hxy, _, hxl, hf2⟩ := DataW.trod_struct Tryz.underlying24 hf
  obtain ⟨l⟩ := cs
  match xs, hxl, l, hsz, hf, hf2 with
  | [y0, y1, y2, y3, y4], _, [v0, v1, v2, v3, v4], _, _, hf2 =>
    have g0 := hf2 0 _ rfl
    have g1 := hf2 1 _ rfl
    have g2 := hf2 2 _ rfl
    have g3 := hf2 3 _ rfl
    have g4 := hf2 4 _ rfl
    simp [Value.cells, c1, c2, c3, c4] at g0 g1 g2 g3 g4
    obtain ⟨x0, q0, _, _⟩ := DataW.trod_int Tryz.underlying3 g0
    obtain ⟨A, len, c, fl, q1, m1, m2, m3, m4⟩ := open_fldsT Tryz.underlying22 Tryz.underlying57 (by kernel_rfl) rfl rfl rfl rfl Tryz.underlying9 (by kernel_rfl) g1
    obtain ⟨x2, q2, _, b2⟩ := DataW.trod_string Tryz.underlying9 g2
    obtain ⟨x3, q3, _⟩ := DataW.trod_bool Tryz.underlying4 g3
    obtain ⟨x4, q4, _⟩ := DataW.trod_bool Tryz.underlying4 g4
    simp only [List.cons.injEq, and_true] at q0 q2 q3 q4
    subst q0 q1 q2 q3 q4
    exact ⟨⟨x0, fl, x2.data.toList, x3, x4⟩, A, len, c, rfl, m1, m2, m3, by rw [size_l]; exact b2, m4⟩
end
end

section
open Go.RowKit Go.WideShapes Go.ChangeShapes

section
variable {H : Type} {enc : TypeId × Value → H}
theorem open_textsT {P : Program} {t e : TypeId} {W : World} {v : Value} (ht : P.underlying t = some (.slice e)) (he : P.underlying e = some .string) (hc : P.cellsOf e = 1)
    {fuel : Nat} {x : DataW H × List MemPlace} (hf : DataW.trod enc P W 0 (fun _ => true) true fuel t [v] = some x) :
    ∃ (A : Option Addr) (len c : Nat) (xs : List (List UInt8)), v = .slice A len c ∧ len ≤ maxLen ∧ len ≤ c ∧ Reads W W.heap.size 1 A len (strs xs) ∧ ∀ x ∈ xs, x.length ≤ maxLen := by
  rcases open_strings ht he hc hf with ⟨hcs, _⟩ | ⟨a, len, cap, ss, hcs, _, hl, hm, hz, _, hcell, hwz⟩
  · simp only [List.cons.injEq, and_true] at hcs
    subst hcs
    exact ⟨none, 0, 0, [], rfl, Nat.zero_le _, Nat.le_refl _, Reads.none_, by simp⟩
  · simp only [List.cons.injEq, and_true] at hcs
    subst hcs
    simp only [if_true] at hz
    refine ⟨some a, len, cap, (ss.take len).map (·.data.toList), rfl, by omega, hl, ⟨by rw [strs_len]; simp; omega, fun h0 => ⟨a, rfl, ?_, ?_⟩⟩, fun x hx => ?_⟩
    · have := World.block_lt_of_cell? _ _ (hcell 0 (by omega))
      rwa [block_of_add] at this
    · intro j u hu
      unfold strs at hu
      rw [List.map_map, List.getElem?_map] at hu
      cases e1 : (ss.take len)[j]? with
      | none => rw [e1] at hu; simp at hu
      | some z =>
        rw [e1] at hu
        simp only [Option.map_some, Option.some.injEq] at hu
        subst hu
        have hj : j < (ss.take len).length := (List.getElem?_eq_some_iff.1 e1).1
        have hjl : j < ss.length := by simp at hj; omega
        have h1 := hcell j hjl
        rw [List.getElem?_take] at e1
        have h2 : ss[j]? = some z := by
          by_cases hlt : j < len
          · rwa [if_pos hlt] at e1
          · rw [if_neg hlt] at e1; simp at e1
        rw [h1, List.getD_eq_getElem?_getD, h2]
        rfl
    · obtain ⟨z, hz1, rfl⟩ := List.mem_map.1 hx
      have := hwz z (List.mem_of_mem_take hz1)
      rw [size_l]
      exact this
set_option maxRecDepth 100000 in
theorem open_fnd {W : World} {base : Nat} {v : Value} {d : DataW H} {p : List MemPlace} (hval : Value.okWide Tryz.prog W .any base 42 v) (h : DataW.Trod enc Tryz.prog W 0 (fun _ => true) true 42 v d p) :
    ∃ (f : FoundP) (S N V : Option Addr) (cs cn cv : Nat), v = fndV f S N V cs cn cv ∧ f.segs.length ≤ maxLen ∧ f.names.length ≤ maxLen ∧ f.vals.length ≤ maxLen ∧ Reads W W.heap.size 1 S f.segs.length (strs f.segs) ∧ Reads W W.heap.size 1 N f.names.length (strs f.names) ∧ Reads W W.heap.size 1 V f.vals.length (strs f.vals) := by
  have ce : Tryz.prog.cellsOf 42 = 7 := by kernel_rfl
  have c1 : Tryz.prog.cellsOf 3 = 1 := by kernel_rfl
  have c2 : Tryz.prog.cellsOf 38 = 1 := by kernel_rfl
  have c3 : Tryz.prog.cellsOf 9 = 1 := by kernel_rfl
  have c4 : Tryz.prog.cellsOf 4 = 1 := by kernel_rfl
  have c5 : Tryz.prog.cellsOf 40 = 3 := by kernel_rfl
  obtain ⟨cs, rfl, hsz⟩ := okWide_struct Tryz.underlying42 hval
  rw [ce] at hsz
  obtain ⟨fuel, hf⟩ := h
  obtain ⟨xs, k, hk, hxy, _, hxl, hf2⟩ := DataW.trod_struct Tryz.underlying42 hf
  obtain ⟨l⟩ := cs
  match xs, hxl, l, hsz, hf, hf2 with
  | [y0, y1, y2, y3, y4], _, [v0, v1, v2, v3, v4, v5, v6], _, _, hf2 =>
    have g0 := hf2 0 _ rfl
    have g1 := hf2 1 _ rfl
    have g2 := hf2 2 _ rfl
    have g3 := hf2 3 _ rfl
    have g4 := hf2 4 _ rfl
    simp [Value.cells, c2, c3, c4, c5] at g0 g1 g2 g3 g4
    obtain ⟨x0, q0, _⟩ := DataW.trod_bool Tryz.underlying4 g0
    obtain ⟨ys, n, hn, _, _, hyl, hr2⟩ := DataW.trod_struct Tryz.underlying40 g1
    match ys, hyl, hr2 with
    | [u0, u1, u2], _, hr2 =>
      have r0 := hr2 0 _ rfl
      have r1 := hr2 1 _ rfl
      have r2 := hr2 2 _ rfl
      simp [c1, c2, c3] at r0 r1 r2
      obtain ⟨S, sl, sc, ss, q1, m1, _, m3, _⟩ := open_textsT Tryz.underlying38 Tryz.underlying9 (by kernel_rfl) r0
      obtain ⟨kk, q2, _, _⟩ := DataW.trod_int Tryz.underlying3 r1
      obtain ⟨tx, q3, _, _⟩ := DataW.trod_string Tryz.underlying9 r2
      obtain ⟨N, nl, nc, ns, q4, m4, _, m6, _⟩ := open_textsT Tryz.underlying38 Tryz.underlying9 (by kernel_rfl) g2
      obtain ⟨V, vl, vc, vs, q5, m7, _, m9, _⟩ := open_textsT Tryz.underlying38 Tryz.underlying9 (by kernel_rfl) g3
      obtain ⟨rs, q6, _, _⟩ := DataW.trod_string Tryz.underlying9 g4
      simp only [List.cons.injEq, and_true] at q0 q2 q3 q6
      subst q0 q1 q2 q3 q4 q5 q6
      obtain rfl := m3.len
      obtain rfl := m6.len
      obtain rfl := m9.len
      exact ⟨⟨x0, ss, kk, tx.data.toList, ns, vs, rs.data.toList⟩, S, N, V, sc, nc, vc, rfl, m1, m4, m7, m3, m6, m9⟩
set_option maxRecDepth 100000 in
theorem open_req {W : World} {base : Nat} {v : Value} {d : DataW H} {p : List MemPlace} (hval : Value.okWide Tryz.prog W .any base 33 v) (h : DataW.Trod enc Tryz.prog W 0 (fun _ => true) true 33 v d p) :
    ∃ (r : ReqP) (host : ByteArray) (FA : Option Addr) (fn fc : Nat), v = reqV r host FA fn fc ∧ r.path.length ≤ maxLen ∧ r.query.length ≤ maxLen ∧ r.body.length ≤ maxLen := by
  have ce : Tryz.prog.cellsOf 33 = 6 := by kernel_rfl
  have c2 : Tryz.prog.cellsOf 22 = 1 := by kernel_rfl
  have c3 : Tryz.prog.cellsOf 9 = 1 := by kernel_rfl
  obtain ⟨cs, rfl, hsz⟩ := okWide_struct Tryz.underlying33 hval
  rw [ce] at hsz
  obtain ⟨fuel, hf⟩ := h
  obtain ⟨xs, k, hk, hxy, _, hxl, hf2⟩ := DataW.trod_struct Tryz.underlying33 hf
  obtain ⟨l⟩ := cs
  match xs, hxl, l, hsz, hf, hf2 with
  | [y0, y1, y2, y3, y4, y5], _, [v0, v1, v2, v3, v4, v5], _, _, hf2 =>
    have g0 := hf2 0 _ rfl
    have g1 := hf2 1 _ rfl
    have g2 := hf2 2 _ rfl
    have g3 := hf2 3 _ rfl
    have g4 := hf2 4 _ rfl
    have g5 := hf2 5 _ rfl
    simp [Value.cells, c2, c3] at g0 g1 g2 g3 g4 g5
    obtain ⟨x0, q0, _, _⟩ := DataW.trod_string Tryz.underlying9 g0
    obtain ⟨x1, q1, _, b1⟩ := DataW.trod_string Tryz.underlying9 g1
    obtain ⟨x2, q2, _, b2⟩ := DataW.trod_string Tryz.underlying9 g2
    obtain ⟨x3, q3, _, _⟩ := DataW.trod_string Tryz.underlying9 g3
    obtain ⟨A, len, c, fl, q4, _, _, _, _⟩ := open_fldsT Tryz.underlying22 Tryz.underlying57 (by kernel_rfl) rfl rfl rfl rfl Tryz.underlying9 (by kernel_rfl) g4
    obtain ⟨x5, q5, _, b5⟩ := DataW.trod_string Tryz.underlying9 g5
    simp only [List.cons.injEq, and_true] at q0 q1 q2 q3 q5
    subst q0 q1 q2 q3 q4 q5
    exact ⟨⟨x0.data.toList, x1.data.toList, x2.data.toList, x5.data.toList⟩, x3, A, len, c, rfl, by rw [size_l]; exact b1, by rw [size_l]; exact b2, by rw [size_l]; exact b5⟩
end
end
end Go.Proofs.YthhlnpfcpgfcfaaGreatDoor
