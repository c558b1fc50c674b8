/- Closed runs whose ends differ in how many names were given: names may be skipped. -/
import Derived.Test.YtncdiipfnmdgpaaGreatDoorAcF
namespace Ab
set_option linter.unusedVariables false
set_option linter.unusedSimpArgs false
open Go
theorem VR.raise {c : Cx} {n m : Nat} {l : List (Nat × AObj)} {w : World} (hnm : n ≤ m) {v : SV} {x : Value} (h : VR c ⟨n, l⟩ w v x) : VR c ⟨m, l⟩ w v x := by
  induction h with
  | pure h => exact .pure h
  | ref i g idx sub x hx hi hg h => exact .ref _ _ _ _ _ hx (Nat.lt_of_lt_of_le hi hnm) hg h
  | sl i g sz off len cap x hx hi hg h => exact .sl _ _ _ _ _ _ _ hx (Nat.lt_of_lt_of_le hi hnm) hg h
  | mapv i g x hx hi hg h => exact .mapv _ _ _ hx (Nat.lt_of_lt_of_le hi hnm) hg h
  | iface t v x _ ih => exact .iface _ _ _ ih
  | agg l cs hl _ ih => exact .agg _ _ hl ih
  | tup l cs hl _ ih => exact .tup _ _ hl ih
  | func fn a b a' b' ha hb _ _ ih ih' => exact .func _ _ _ _ _ ha hb ih ih'
theorem Rep.raise {c : Cx} {n m : Nat} {l : List (Nat × AObj)} {w : World} (hnm : n ≤ m) (hr : Rep c ⟨n, l⟩ w) : Rep c ⟨m, l⟩ w := by
  refine ⟨fun i o ho => Nat.lt_of_lt_of_le (hr.lt i o ho) hnm, fun i o ho => ?_, hr.inj, hr.apart, hr.im, hr.glob⟩
  have hor := hr.obj i o ho
  cases hor with
  | vec g sz elems sk C ty fz hw hle heq hty hc hf hcell => exact .vec g sz elems sk C ty fz hw hle heq hty hc hf fun i j e v x a b d => (hcell i j e v x a b d).raise hnm
  | iter s pos hw => exact .iter s pos hw
  | map es cl hw hs' => exact .map es cl hw hs'
  | miter m' since seen stepped r hw hm => exact .miter m' since seen stepped r hw (hm.raise hnm)
  | fro g ty xs C fz hw hle hc => exact .fro g ty xs C fz hw hle hc
theorem Ext.raise {c : Cx} {n m : Nat} {l : List (Nat × AObj)} {w : World} (hnm : n ≤ m) : Ext c ⟨n, l⟩ w c ⟨m, l⟩ w :=
  ⟨rfl, rfl, rfl, Nat.le_refl _, fun _ _ _ => rfl, fun _ _ => rfl, fun _ h => h, fun _ h => .inl h, hnm, fun i o _ h => ⟨o, h, Nat.le_refl _, rfl, fun _ => rfl⟩, fun i o h => .inr ⟨o, h, rfl⟩⟩
theorem ACall.raise {P : Program} {f : FuncId} {args : List SV} {h : Heap} {K : AEnd → Heap → Prop} (hp : ACall P f args h fun r h' => ∃ m, h'.nxt ≤ m ∧ K r ⟨m, h'.l⟩) : ACall P f args h K := by
  refine ⟨fun c w xs hr hs hv => (hp.calls c w xs hr hs hv).mono fun en w' hpost => ?_⟩
  obtain ⟨c', h', r, ⟨m, hm, hk⟩, hr', hx', hres⟩ := hpost
  obtain ⟨n, l⟩ := h'
  refine ⟨c', ⟨m, l⟩, r, hk, hr'.raise hm, hx'.trans hr (Ext.raise hm), ?_⟩
  cases r with
  | ret v =>
    obtain ⟨x, h1, h2⟩ := hres
    exact ⟨x, h1, h2.raise hm⟩
  | pan v =>
    obtain ⟨x, h1, h2⟩ := hres
    exact ⟨x, h1, h2.raise hm⟩
noncomputable section
def endN (v : SV) (N : Nat) (H : List (Nat × AObj)) (r : AEnd) (h : Heap) : Bool := match r with
  | .ret u => svEq 8 u v && (Nat.ble h.nxt N && subH H h.l)
  | .pan _ => false
end
theorem rcall_lvmN {P : Program} {T TD : List (Nat × Tab)} {L : List Know} (M : List Hint) (hm : P.follows .mixedOrders = true) (hT : TabsOk P T) (hD : TabsOk P TD) (hL : KnowsOk P L) (n : Nat) (k : Know) (h1 : (k.args.all (litB 8) && (firmB 8 k.v && firmL k.H)) = true)
    (hp : (lvm P T TD L M n).1.call k.f k.args ⟨0, []⟩ (fun r h => endN k.v k.N k.H r h = true)) : RCall P k.f k.args k.v k.N k.H := by
  simp only [Bool.and_eq_true] at h1
  refine ⟨fun a ha => litB_lit 8 a (List.all_eq_true.1 h1.1 a ha), h1.2.1, h1.2.2, ACall.raise (((lvm_sound hm hT hD hL n).1.call _ _ _ _ hp).mono fun r h' hr => ?_)⟩
  unfold endN at hr
  split at hr
  · simp only [Bool.and_eq_true] at hr
    exact ⟨k.N, Nat.le_of_ble_eq_true hr.2.1, by rw [svEq_eq 8 _ _ hr.1], rfl, fun i o ho => subH_sub hr.2.2 i o ho⟩
  · cases hr
end Ab
