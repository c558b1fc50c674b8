/- The library's functions that the lexer calls: contracts, by the library's shelf. -/
import Derived.Test.YtboinbjiemmggaaDoorVe4
import Derived.Test.YtboinbjiemmggaaDoorSh
import Derived.Test.YtboinbjiemmggaaDoorCodeA
import Derived.Lib.SmallJoins
namespace Go.Proofs.YtboinbjiemmggaaDoor
open Ab Go.RowKit
set_option maxRecDepth 100000
set_option linter.unusedVariables false
theorem vp_tup2 {Im : Nat → Prop} {w : World} {a b : SV} {x y : Value} (ha : VP Im w a x) (hb : VP Im w b y) : VP Im w (.tup [a, b]) (.tuple #[x, y]) :=
  .tup _ _ rfl fun i v z hv hz => by
    rcases i with _ | _ | i
    · cases hv; cases hz; exact ha
    · cases hv; cases hz; exact hb
    · simp at hv
theorem first_tab : ∀ c : Fin 256, (globTab 2)[c.val]? = some (IntKind.u8, (Lib.firstT c.val : Int)) := by decide +kernel
theorem acc_tab : ∀ i : Fin 16, (globTab 3)[2 * i.val]? = some (IntKind.u8, (Lib.accLo i.val : Int)) ∧ (globTab 3)[2 * i.val + 1]? = some (IntKind.u8, (Lib.accHi i.val : Int)) := by decide +kernel
theorem utf8_tabs {Im : Nat → Prop} {w : World} (hg : GlobOk Im w) : Lib.Utf8Tabs 2 3 w :=
  ⟨fun c hc => hg.cell (first_tab ⟨c, hc⟩), fun i hi => ⟨hg.cell (acc_tab ⟨i, hi⟩).1, hg.cell (acc_tab ⟨i, hi⟩).2⟩⟩
theorem decode_any (s : List UInt8) : PCall Tryd.prog 22 [.str s] (.tup [.int .i32 ((Lib.decodeGo ⟨s.toArray⟩).1 : Nat), .int .i64 ((Lib.decodeGo ⟨s.toArray⟩).2 : Nat)]) := by
  refine pcall_below (lits1 (.str _)) (lit2 (.int _ _) (.int _ _)) fun Im w xs hg him hz hv => ?_
  obtain rfl := args1 hz hv (fun _ h => h.str_inv')
  refine (Any.utf8_DecodeRuneInString Tryd.lays197 ⟨s.toArray⟩ w (utf8_tabs hg)).mono fun e w' h => ?_
  obtain ⟨rfl, hb⟩ := h
  exact ⟨⟨_, rfl, vp_tup2 (.int _ _) (.int _ _)⟩, hb⟩
theorem toLower_any {s : List UInt8} (hs : s.length ≤ 140737488355328) (ha : ∀ c ∈ s, c.toNat < 128) : PCall Tryd.prog 20 [.str s] (.str (Lib.toLowerA s)) := by
  refine pcall_below (lits1 (.str _)) (.str _) fun Im w xs hg him hz hv => ?_
  obtain rfl := args1 hz hv (fun _ h => h.str_inv')
  refine (Any.strings_ToLower_ascii Tryd.lays159 Tryd.builderExtra ⟨s.toArray⟩ w (by simpa [ByteArray.size] using hs) fun j b hb => ha b (List.mem_of_getElem? (by simpa using hb))).mono fun e w' h => ?_
  obtain ⟨rfl, hb⟩ := h
  exact ⟨⟨_, rfl, .str _⟩, hb⟩
theorem parse_ok {s : List UInt8} {u : Nat} (hs : s.length ≤ 1000000) (hu : Lib.parseUintB 64 s = .ok u) : PCall Tryd.prog 21 [.str s, .int .i64 10, .int .i64 64] (.tup [.int .u64 u, .nili]) := by
  refine pcall_below (lits3 (.str _) (.int _ _) (.int _ _)) (lit2 (.int _ _) .nili) fun Im w xs hg him hz hv => ?_
  obtain rfl := args3 hz hv (fun _ h => h.str_inv') (fun _ h => h.int_inv') (fun _ h => h.int_inv')
  refine (Any.strconv_ParseUint_10_at64_ok Tryd.laysPu14 ⟨s.toArray⟩ (by simp only [ByteArray.size, List.size_toArray]; omega) u hu w).mono fun e w' h => ?_
  obtain ⟨rfl, hb⟩ := h
  refine ⟨⟨_, rfl, vp_tup2 (.int _ _) .nili⟩, ?_⟩
  rcases hb with rfl | rfl
  · exact Below.refl _ _
  · exact Go.Joins.below_bytesWorld _ _ _ _ (Nat.le_refl _)
theorem parse_range {s : List UInt8} (hs : s.length ≤ 1000000) (hu : Lib.parseUintB 64 s = .range) : ∃ t, PCall Tryd.prog 21 [.str s, .int .i64 10, .int .i64 64] (.tup [.int .u64 18446744073709551615, .iface t .undef]) := by
  refine ⟨Tryd.laysPu14_ren.t 39, pcall_below (lits3 (.str _) (.int _ _) (.int _ _)) (lit2 (.int _ _) (.iface _ .undef)) fun Im w xs hg him hz hv => ?_⟩
  obtain rfl := args3 hz hv (fun _ h => h.str_inv') (fun _ h => h.int_inv') (fun _ h => h.int_inv')
  obtain ⟨_, v, ty, fz, h1, h2⟩ := hg.2 7 (by decide)
  refine (Any.strconv_ParseUint_10_at64_range Tryd.laysPu14 ⟨s.toArray⟩ (by simp only [ByteArray.size, List.size_toArray]; omega) hu v w (by show w.cell? ⟨7, 0, none⟩ = some v; unfold World.cell?; rw [h1]; rfl) h2).mono fun e w' h => ?_
  obtain ⟨N, rfl, _, _, hb⟩ := h
  exact ⟨⟨_, rfl, vp_tup2 (.int _ _) (.iface _ _ _ (.undef _))⟩, hb⟩
end Go.Proofs.YtboinbjiemmggaaDoor
