/-
  What a row's list of variables gives the walks on responses: the tables of the library and of the package, two errors.
-/
import Derived.Test.YthhlnpfcpgfcfaaDoorCb
import Derived.Test.YthhlnpfcpgfcfaaDoorT12
import Derived.Lib.LaidU8
import Derived.Stop.LaidErr
import Derived.LaidSub
import Derived.Shelf.Vars
namespace Go.Proofs.YthhlnpfcpgfcfaaDoor
open Go.RowKit Go.Lib

theorem gPow : Tryd.prog.globalNamed "internal/strconv.uint64pow10" = some 4 := by kernel_rfl
theorem gPowType : (Tryd.prog.globals[4]?).map (·.type) = some 190 := by kernel_rfl
theorem gTz : Tryd.prog.globalNamed "math/bits.deBruijn64tab" = some 10 := by kernel_rfl
theorem gTzType : (Tryd.prog.globals[10]?).map (·.type) = some 212 := by kernel_rfl
theorem gAsc : Tryd.prog.globalNamed "strings.asciiSpace" = some 1 := by kernel_rfl
theorem gAscType : (Tryd.prog.globals[1]?).map (·.type) = some 134 := by kernel_rfl
theorem cells_u8 : Tryd.prog.cellsOf 5 = 1 := by kernel_rfl
theorem cells_u64 : Tryd.prog.cellsOf 128 = 1 := by kernel_rfl
theorem cells_a20 : Tryd.prog.cellsOf 190 = 20 := by kernel_rfl
theorem cells_a64 : Tryd.prog.cellsOf 212 = 64 := by kernel_rfl
theorem cells_a256 : Tryd.prog.cellsOf 134 = 256 := by kernel_rfl
theorem powData : (Lib.tabData .u64 Lib.pow10Tab : DataW Unit) = Rows.laid_internal_strconv_uint64pow10 := rfl
theorem tzData : (Lib.tabData .u8 (Lib.deBruijn64tab.map Int.ofNat) : DataW Unit) = Rows.laid_math_bits_deBruijn64tab := by kernel_rfl
theorem ascData : (Lib.tabData .u8 Lib.asciiSpaceTab : DataW Unit) = Rows.laid_strings_asciiSpace := by kernel_rfl
theorem firstDataR : (Lib.firstData : DataW Unit) = Rows.laid_unicode_utf8_first := by kernel_rfl
theorem acceptDataR : (Lib.acceptData : DataW Unit) = Rows.laid_unicode_utf8_acceptRanges := by kernel_rfl
theorem whiteDataR : (Lib.whiteData : DataW Unit) = Rows.laid_unicode_White_Space := by kernel_rfl
theorem u8X : U8Extra Tryd.prog Tryd.lays163_ren := { n3 := by kernel_rfl, n4 := by kernel_rfl, y3 := by kernel_rfl, y4 := by kernel_rfl, c5 := by kernel_rfl, c119 := by kernel_rfl, c138 := by kernel_rfl }
theorem whiteX : WhiteExtra Tryd.prog Tryd.lays163_ren := { n6 := by kernel_rfl, y6 := by kernel_rfl, c3 := by kernel_rfl, c49 := by kernel_rfl, c193 := by kernel_rfl, c194 := by kernel_rfl, c196 := by kernel_rfl, c198 := by kernel_rfl }
theorem gCodes : Tryd.prog.globalNamed "waypost/respond.codes" = some 0 := by kernel_rfl
theorem gCodesType : (Tryd.prog.globals[0]?).map (·.type) = some 117 := by kernel_rfl
theorem cells_entry : Tryd.prog.cellsOf 116 = 2 := by kernel_rfl
theorem cells_int1 : Tryd.prog.cellsOf 3 = 1 := by kernel_rfl
theorem cells_str1 : Tryd.prog.cellsOf 9 = 1 := by kernel_rfl
theorem cells_a15 : Tryd.prog.cellsOf 117 = 30 := by kernel_rfl
set_option maxRecDepth 100000 in
/-- an entry that reads as a code with its reason holds them -/
theorem entry_of {w : World} {fuel : Nat} {cs : List Value} {d : DataW Unit} {q : List MemPlace} (h : DataW.trod (fun _ => ()) Tryd.prog w 0 (fun _ => true) false fuel 116 cs = some (d, q)) :
    ∃ (c : Int) (s : ByteArray), cs = [.int .i64 c, .string s] ∧ d = .agg [.lit (.int .i64 c), .lit (.string s.data.toList)] := by
  obtain ⟨xs, n, rfl, hx, hl, hxl, hall⟩ := DataW.trod_struct Tryd.underlying116 h
  rw [cells_entry] at hl
  match xs, hxl, cs, hl with
  | [y0, y1], _, [v0, v1], _ =>
    have g0 := hall 0 _ rfl
    have g1 := hall 1 _ rfl
    simp [cells_int1, cells_str1] at g0 g1
    obtain ⟨c, q0, e0, _⟩ := DataW.trod_int Tryd.underlying3 g0
    obtain ⟨s, q1, e1, _⟩ := DataW.trod_string Tryd.underlying9 g1
    simp only [List.cons.injEq, and_true] at q0 q1
    subst q0 q1 e0 e1
    refine ⟨c, s, rfl, ?_⟩
    have := congrArg Prod.fst hx
    simpa using this
theorem array_len {P : Program} {w : World} {fuel : Nat} {t e : TypeId} {n : Nat} {cs : List Value} {ds : List (DataW Unit)} {p : List MemPlace} (ht : P.underlying t = some (.array n e))
    (h : DataW.trod (fun _ => ()) P w 0 (fun _ => true) false fuel t cs = some (.agg ds, p)) : cs.length = P.cellsOf t := by
  cases fuel with
  | zero => simp [DataW.trod] at h
  | succ fuel =>
    simp only [DataW.trod, ht] at h
    split at h
    · rename_i hc
      exact hc
    · cases h
def codesD : List (DataW Unit) := (List.range 15).map fun i => .agg [.lit (.int .i64 (codeN i : Nat)), .lit (.string (codeS i))]
theorem codesData : (.agg codesD : DataW Unit) = Rows.laid_waypost_respond_codes := by kernel_rfl
set_option maxRecDepth 100000 in
theorem codes_of_reads {w : World} (h : VarReads Tryd.prog w "waypost/respond.codes" (.agg codesD)) : Codes w := by
  obtain ⟨g, t, cs, fuel, p, hg, hty, hvar, hd⟩ := h
  obtain rfl := Option.some.inj (gCodes.symm.trans hg)
  obtain rfl := Option.some.inj (gCodesType.symm.trans hty)
  have hlen : cs.size = 30 := by
    have := array_len Tryd.underlying117 hd
    rw [cells_a15] at this
    simpa using this
  have hev : ∀ i, i < 15 → (cs.toList.drop (i * 2)).take 2 = [.int .i64 (codeN i : Nat), .string (bs (codeS i))] := by
    intro i hi
    obtain ⟨f2, d, q, hds, ht⟩ := array_elem Tryd.underlying117 hd i hi
    rw [cells_entry] at ht
    obtain ⟨c, s, e1, e2⟩ := entry_of ht
    have hd2 : codesD[i]? = some (.agg [.lit (.int .i64 (codeN i : Nat)), .lit (.string (codeS i))]) := by simp [codesD, hi]
    rw [hd2] at hds
    injection hds with hds
    rw [e2] at hds
    simp only [DataW.agg.injEq, List.cons.injEq, DataW.lit.injEq, Lit.int.injEq, Lit.string.injEq, true_and, and_true] at hds
    rw [e1, ← hds.1, show s = bs (codeS i) from ba_ext (by rw [bs_list]; exact hds.2.symm)]
  have hcs : cs = codesC := by
    apply Array.ext_getElem?
    intro k
    by_cases hk : k < 30
    · have h1 := hev (k / 2) (by omega)
      obtain ⟨q0, q1⟩ := codesC_at (k / 2) (by omega)
      have h0 : cs.toList[k / 2 * 2]? = some (.int .i64 (codeN (k / 2) : Nat)) ∧ cs.toList[k / 2 * 2 + 1]? = some (.string (bs (codeS (k / 2)))) := by
        have e0 := congrArg (fun l : List Value => l[0]?) h1
        have e1 := congrArg (fun l : List Value => l[1]?) h1
        simp only [List.getElem?_take, List.getElem?_drop] at e0 e1
        exact ⟨by simpa using e0, by simpa using e1⟩
      rcases Nat.mod_two_eq_zero_or_one k with hm | hm
      · have ek : k / 2 * 2 = k := by omega
        rw [ek] at h0 q0
        rw [q0, ← Array.getElem?_toList, h0.1]
      · have ek : k / 2 * 2 + 1 = k := by omega
        rw [ek] at h0 q1
        rw [q1, ← Array.getElem?_toList, h0.2]
    · rw [Array.getElem?_eq_none (by omega), Array.getElem?_eq_none (by
        have : codesC.size = 30 := by kernel_rfl
        omega)]
  subst hcs
  unfold World.var? at hvar
  rw [gCodes] at hvar
  simp only [Option.bind_some] at hvar
  split at hvar
  · rename_i cs' t' fr' hh
    injection hvar with hvar
    subst hvar
    exact ⟨t', fr', hh⟩
  · cases hvar
theorem gErr : Tryd.prog.globalNamed "strconv.ErrSyntax" = some 5 := by kernel_rfl
theorem gErrR : Tryd.prog.globalNamed "strconv.ErrRange" = some 6 := by kernel_rfl
theorem starE : "*" ++ "errors.errorString" = "*errors.errorString" := by decide
theorem rowErr (u : TypeId) (h : Tryd.prog.typeName? 3 u = some "*errors.errorString") : u = 208 :=
  typeName_ptr_named (nm := "errors.errorString") (by rw [starE]; kernel_rfl) (by kernel_rfl) (by decide) u (by rw [starE]; exact h)
theorem errs_of_laid {W : World} {laid : List (String × DataW Unit)} (h : laidMet Tryd.prog laid W) (h1 : (laid.filter fun x => x.1 == "strconv.ErrSyntax") = [("strconv.ErrSyntax", Rows.laid_strconv_ErrSyntax)]) (h3 : (laid.filter fun x => x.1 == "strconv.ErrRange") = [("strconv.ErrRange", Rows.laid_strconv_ErrRange)]) : Errs W := by
  have h2 := h.filter fun x => x.1 == "strconv.ErrSyntax"
  rw [h1] at h2
  have h4 := h.filter fun x => x.1 == "strconv.ErrRange"
  rw [h3] at h4
  obtain ⟨a, s, hv, _⟩ := laid_sentinel h2 gErr (by kernel_rfl) Tryd.underlying87 rowErr Tryd.underlying208 Tryd.underlying210 rfl rfl Tryd.underlying9 (by kernel_rfl) (by kernel_rfl)
  obtain ⟨b, s2, hv2, _⟩ := laid_sentinel h4 gErrR (by kernel_rfl) Tryd.underlying87 rowErr Tryd.underlying208 Tryd.underlying210 rfl rfl Tryd.underlying9 (by kernel_rfl) (by kernel_rfl)
  exact ⟨⟨_, _, World.var?_cell gErr hv 0⟩, ⟨_, _, World.var?_cell gErrR hv2 0⟩⟩
theorem tabs_of_laid {W : World} {laid : List (String × DataW Unit)} (h : laidMet Tryd.prog laid W) (h1 : ("internal/strconv.uint64pow10", Rows.laid_internal_strconv_uint64pow10) ∈ laid) (h2 : ("math/bits.deBruijn64tab", Rows.laid_math_bits_deBruijn64tab) ∈ laid) : Tabs W := by
  refine ⟨tabIs_of_reads gPow gPowType Tryd.underlying190 Tryd.underlying128 cells_u64 cells_a20 (by rw [powData]; exact Lib.laidMet.reads h h1), fun j hj => ?_⟩
  have ht : Lib.TabIs Tryd.prog W "math/bits.deBruijn64tab" .u8 (Lib.deBruijn64tab.map Int.ofNat) := tabIs_of_reads gTz gTzType Tryd.underlying212 Tryd.underlying5 cells_u8 cells_a64 (by rw [tzData]; exact Lib.laidMet.reads h h2)
  have := ht.cell gTz j (by simpa using hj)
  rw [this]
  simp [List.getD_eq_getElem?_getD, List.getElem?_map, List.getElem?_eq_getElem hj]
theorem maxL_of_shape {W : World} (hs : W.ShapedOpen Tryd.prog) : MaxL W :=
  cell_of_shapedOpen_int (zero := #[.int .i64 0]) (t := 3) hs (of_decide_eq_true (by kernel_rfl)) (by kernel_rfl) rfl (by kernel_rfl) (by kernel_rfl) Tryd.underlying3
theorem tab12_of {W : World} {laid : List (String × DataW Unit)} (h : laidMet Tryd.prog laid W) (hs : W.ShapedOpen Tryd.prog) (h1 : ("internal/strconv.uint64pow10", Rows.laid_internal_strconv_uint64pow10) ∈ laid) (h2 : ("math/bits.deBruijn64tab", Rows.laid_math_bits_deBruijn64tab) ∈ laid)
    (h3 : ("strings.asciiSpace", Rows.laid_strings_asciiSpace) ∈ laid) (h4 : ("unicode/utf8.first", Rows.laid_unicode_utf8_first) ∈ laid) (h5 : ("unicode/utf8.acceptRanges", Rows.laid_unicode_utf8_acceptRanges) ∈ laid) (h6 : ("unicode.White_Space", Rows.laid_unicode_White_Space) ∈ laid) (h7 : ("waypost/respond.codes", Rows.laid_waypost_respond_codes) ∈ laid)
    (h8 : (laid.filter fun x => x.1 == "strconv.ErrSyntax") = [("strconv.ErrSyntax", Rows.laid_strconv_ErrSyntax)]) (h9 : (laid.filter fun x => x.1 == "strconv.ErrRange") = [("strconv.ErrRange", Rows.laid_strconv_ErrRange)]) : Tab12 W :=
  ⟨⟨codes_of_reads (by rw [codesData]; exact Lib.laidMet.reads h h7),
    ⟨tabIs_of_reads gAsc gAscType Tryd.underlying134 Tryd.underlying5 cells_u8 cells_a256 (by rw [ascData]; exact Lib.laidMet.reads h h3),
      utf8Tabs_of_reads { Tryd.lays163 with } u8X (by rw [firstDataR]; exact Lib.laidMet.reads h h4) (by rw [acceptDataR]; exact Lib.laidMet.reads h h5),
      whiteTab_of_reads { Tryd.lays163 with } whiteX (by rw [whiteDataR]; exact Lib.laidMet.reads h h6)⟩,
    tabs_of_laid h h1 h2⟩, maxL_of_shape hs, errs_of_laid h h8 h9⟩
end Go.Proofs.YthhlnpfcpgfcfaaDoor
