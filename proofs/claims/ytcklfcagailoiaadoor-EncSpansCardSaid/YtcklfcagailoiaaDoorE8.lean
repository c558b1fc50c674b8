/- The document's own stamp: its contract. -/
import Derived.Test.YtcklfcagailoiaaDoorE7
namespace Go.Proofs.YtcklfcagailoiaaDoor
open Ab Go.RowKit
set_option maxRecDepth 100000
set_option linter.unusedVariables false
set_option linter.unusedSimpArgs false
set_option pp.maxSteps 3000
theorem tabsE : TabsOk Tryd.prog [(70, t70)] := .cons tab70 .nil
/-- A byte of a number that the document's answer shifts. -/
theorem eight_a {x : Int} {o : AObj} {R : AEnd → Heap → Prop}
    (h : R (.ret (.sl 2 7 1 0 8 none)) ⟨10, [(9, .vec 0 1 [byE x 0] ⟨false, some 5⟩), (8, .vec 0 1 [byE x 8] ⟨false, some 5⟩), (7, .vec 0 1 [byE x 16] ⟨false, some 5⟩), (6, .vec 0 1 [byE x 24] ⟨false, some 5⟩), (5, .vec 0 1 [byE x 32] ⟨false, some 5⟩), (4, .vec 0 1 [byE x 40] ⟨false, some 5⟩), (3, .vec 0 1 [byE x 48] ⟨false, some 5⟩), (2, .vec 7 1 [byE x 56, byE x 48, byE x 40, byE x 32, byE x 24, byE x 16, byE x 8, byE x 0] ⟨true, some 5⟩), (1, .vec 0 1 [byE x 56] ⟨false, some 5⟩), (0, o)]⟩) :
    ACall Tryd.prog 70 [.int .u64 x] ⟨1, [(0, o)]⟩ R :=
  (lvl_sound mixed tabsE 30).1.call _ _ _ _ (Eq.mpr (show (lvl Tryd.prog [(70, t70)] 30).1.call 70 [.int .u64 x] ⟨1, [(0, o)]⟩ R = R (.ret (.sl 2 7 1 0 8 none)) ⟨10, [(9, .vec 0 1 [byE x 0] ⟨false, some 5⟩), (8, .vec 0 1 [byE x 8] ⟨false, some 5⟩), (7, .vec 0 1 [byE x 16] ⟨false, some 5⟩), (6, .vec 0 1 [byE x 24] ⟨false, some 5⟩), (5, .vec 0 1 [byE x 32] ⟨false, some 5⟩), (4, .vec 0 1 [byE x 40] ⟨false, some 5⟩), (3, .vec 0 1 [byE x 48] ⟨false, some 5⟩), (2, .vec 7 1 [byE x 56, byE x 48, byE x 40, byE x 32, byE x 24, byE x 16, byE x 8, byE x 0] ⟨true, some 5⟩), (1, .vec 0 1 [byE x 56] ⟨false, some 5⟩), (0, o)]⟩ by kernel_rfl) h)
theorem eight_b {x : Int} {R : AEnd → Heap → Prop}
    (h : R (.ret (.sl 1 7 1 0 8 none)) ⟨9, [(8, .vec 0 1 [byE x 0] ⟨false, some 5⟩), (7, .vec 0 1 [byE x 8] ⟨false, some 5⟩), (6, .vec 0 1 [byE x 16] ⟨false, some 5⟩), (5, .vec 0 1 [byE x 24] ⟨false, some 5⟩), (4, .vec 0 1 [byE x 32] ⟨false, some 5⟩), (3, .vec 0 1 [byE x 40] ⟨false, some 5⟩), (2, .vec 0 1 [byE x 48] ⟨false, some 5⟩), (1, .vec 7 1 [byE x 56, byE x 48, byE x 40, byE x 32, byE x 24, byE x 16, byE x 8, byE x 0] ⟨true, some 5⟩), (0, .vec 0 1 [byE x 56] ⟨false, some 5⟩)]⟩) :
    ACall Tryd.prog 70 [.int .u64 x] ⟨0, []⟩ R :=
  (lvl_sound mixed tabsE 30).1.call _ _ _ _ (Eq.mpr (show (lvl Tryd.prog [(70, t70)] 30).1.call 70 [.int .u64 x] ⟨0, []⟩ R = R (.ret (.sl 1 7 1 0 8 none)) ⟨9, [(8, .vec 0 1 [byE x 0] ⟨false, some 5⟩), (7, .vec 0 1 [byE x 8] ⟨false, some 5⟩), (6, .vec 0 1 [byE x 16] ⟨false, some 5⟩), (5, .vec 0 1 [byE x 24] ⟨false, some 5⟩), (4, .vec 0 1 [byE x 32] ⟨false, some 5⟩), (3, .vec 0 1 [byE x 40] ⟨false, some 5⟩), (2, .vec 0 1 [byE x 48] ⟨false, some 5⟩), (1, .vec 7 1 [byE x 56, byE x 48, byE x 40, byE x 32, byE x 24, byE x 16, byE x 8, byE x 0] ⟨true, some 5⟩), (0, .vec 0 1 [byE x 56] ⟨false, some 5⟩)]⟩ by kernel_rfl) h)
def eightG (x : Int) (i : Nat) : SV := List.getD [byE x 56, byE x 48, byE x 40, byE x 32, byE x 24, byE x 16, byE x 8, byE x 0] i .undef
theorem eight_any (x : Int) : PCall Tryd.prog 70 [.int .u64 x] (.lst 1 8 (eightG x)) :=
  pcall_of (lits1 (.int _ _)) (eight_b ⟨_, rfl, hard_all (elems := [byE x 56, byE x 48, byE x 40, byE x 32, byE x 24, byE x 16, byE x 8, byE x 0]) (get := eightG x) rfl ⟨rfl, .int _ _, rfl, .int _ _, rfl, .int _ _, rfl, .int _ _, rfl, .int _ _, rfl, .int _ _, rfl, .int _ _, rfl, .int _ _, trivial⟩⟩)
end Go.Proofs.YtcklfcagailoiaaDoor
