/- The closed run of ParserNames, reckoned by the kernel. -/
import Derived.Test.YtoahfaepaojidabGreatDoorPnK1
import Derived.Test.YtoahfaepaojidabGreatDoorPnK3
import Derived.Test.YtoahfaepaojidabGreatDoorPnK4
import Derived.Test.YtoahfaepaojidabGreatDoorPnK7
import Derived.Test.YtoahfaepaojidabGreatDoorPnK8
import Derived.Test.YtoahfaepaojidabGreatDoorPnK9
import Derived.Test.YtoahfaepaojidabGreatDoorPnK11
namespace Go.Proofs.YtoahfaepaojidabGreatDoor
open Ab
set_option maxRecDepth 1000000
attribute [local irreducible] lvd
theorem run : (lvd Tryz.prog tabs tabsD [k323, k214, k184, k182, k177, k173, k166, k123, k122, k38, k37, k35, k31, k28, k22, k18] 600).1.call 3 [] ⟨0, []⟩ (fun r _ => r = .ret (.bool true)) :=
  Eq.mpr (show _ = (AEnd.ret (SV.bool true) = AEnd.ret (SV.bool true)) by kernel_rfl) rfl
theorem any : PCall Tryz.prog 3 [] (.bool true) := pcall_lvd (P := Tryz.prog) (L := [k323, k214, k184, k182, k177, k173, k166, k123, k122, k38, k37, k35, k31, k28, k22, k18]) mixed tabsOk tabsDOk (.cons r323 (.cons r214 (.cons r184 (.cons r182 (.cons r177 (.cons r173 (.cons r166 (.cons r123 (.cons r122 (.cons r38 (.cons r37 (.cons r35 (.cons r31 (.cons r28 (.cons r22 (.cons r18 (.nil))))))))))))))))) 600 (f := 3) (args := []) (v := .bool true) (fun _ h => by simp at h) (.bool _) run
end Go.Proofs.YtoahfaepaojidabGreatDoor
