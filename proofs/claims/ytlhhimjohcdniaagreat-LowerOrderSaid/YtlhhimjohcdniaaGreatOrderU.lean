/-
  The law LowerOrder: the tables of calls. Nothing is asked.
-/
import Derived.Test.YtlhhimjohcdniaaGreatOrderF0
import Derived.Test.YtlhhimjohcdniaaGreatOrderF1
import Derived.Test.YtlhhimjohcdniaaGreatOrderF2
import Derived.Test.YtlhhimjohcdniaaGreatOrderF3
import Derived.Test.YtlhhimjohcdniaaGreatOrderF4
import Derived.Test.YtlhhimjohcdniaaGreatOrderF5
import Derived.Test.YtlhhimjohcdniaaGreatOrderF6
namespace Go.Proofs.YtlhhimjohcdniaaGreat.lowerOrder
open Go Go.Ag
set_option maxRecDepth 100000
def X0 : List Use := [⟨e0, [1]⟩, ⟨e1, [1]⟩, ⟨e2, [1]⟩, ⟨e3, [1, 2288, 2290, 2292, 2293, 2294, 2295, 2296, 2297, 2298]⟩]
theorem x0Ok : UsesOk Tryz.prog X0 := (usesOk_cons e0Ok (usesOk_cons e1Ok (usesOk_cons e2Ok (usesOk_cons e3Ok (usesOk_nil _)))))
def X1 : List Use := [⟨e0, [2, 3]⟩, ⟨e1, [2, 3]⟩, ⟨e2, [2, 3]⟩, ⟨e3, [2, 3, 2288, 2290, 2292, 2293, 2294, 2295, 2296, 2297, 2298]⟩]
theorem x1Ok : UsesOk Tryz.prog X1 := (usesOk_cons e0Ok (usesOk_cons e1Ok (usesOk_cons e2Ok (usesOk_cons e3Ok (usesOk_nil _)))))
def X2 : List Use := [⟨e0, [2, 4, 5]⟩, ⟨e1, [2, 4, 5]⟩, ⟨e2, [2, 4, 5]⟩, ⟨e3, [2, 4, 5, 2288, 2290, 2292, 2293, 2294, 2295, 2296, 2297, 2298]⟩]
theorem x2Ok : UsesOk Tryz.prog X2 := (usesOk_cons e0Ok (usesOk_cons e1Ok (usesOk_cons e2Ok (usesOk_cons e3Ok (usesOk_nil _)))))
def X3 : List Use := [⟨e0, [2, 6, 7]⟩, ⟨e1, [2, 6, 7]⟩, ⟨e2, [2, 6, 7]⟩, ⟨e3, [2, 6, 7, 2288, 2290, 2292, 2293, 2294, 2295, 2296, 2297, 2298]⟩]
theorem x3Ok : UsesOk Tryz.prog X3 := (usesOk_cons e0Ok (usesOk_cons e1Ok (usesOk_cons e2Ok (usesOk_cons e3Ok (usesOk_nil _)))))
def X4 : List Use := [⟨e0, [2, 8, 9]⟩, ⟨e1, [2, 8, 9]⟩, ⟨e2, [2, 8, 9]⟩, ⟨e3, [2, 8, 9, 2288, 2290, 2292, 2293, 2294, 2295, 2296, 2297, 2298]⟩]
theorem x4Ok : UsesOk Tryz.prog X4 := (usesOk_cons e0Ok (usesOk_cons e1Ok (usesOk_cons e2Ok (usesOk_cons e3Ok (usesOk_nil _)))))
def X5 : List Use := [⟨e4, [1]⟩, ⟨e5, [1]⟩, ⟨e6, [1]⟩, ⟨e7, [1, 2216, 2218, 2220, 2221, 2222, 2223, 2224, 2225, 2226]⟩]
theorem x5Ok : UsesOk Tryz.prog X5 := (usesOk_cons e4Ok (usesOk_cons e5Ok (usesOk_cons e6Ok (usesOk_cons e7Ok (usesOk_nil _)))))
def X6 : List Use := [⟨e4, [2, 3]⟩, ⟨e5, [2, 3]⟩, ⟨e6, [2, 3]⟩, ⟨e7, [2, 3, 2216, 2218, 2220, 2221, 2222, 2223, 2224, 2225, 2226]⟩]
theorem x6Ok : UsesOk Tryz.prog X6 := (usesOk_cons e4Ok (usesOk_cons e5Ok (usesOk_cons e6Ok (usesOk_cons e7Ok (usesOk_nil _)))))
def X7 : List Use := [⟨e4, [2, 4, 5]⟩, ⟨e5, [2, 4, 5]⟩, ⟨e6, [2, 4, 5]⟩, ⟨e7, [2, 4, 5, 2216, 2218, 2220, 2221, 2222, 2223, 2224, 2225, 2226]⟩]
theorem x7Ok : UsesOk Tryz.prog X7 := (usesOk_cons e4Ok (usesOk_cons e5Ok (usesOk_cons e6Ok (usesOk_cons e7Ok (usesOk_nil _)))))
def X8 : List Use := [⟨e4, [2, 6, 7]⟩, ⟨e5, [2, 6, 7]⟩, ⟨e6, [2, 6, 7]⟩, ⟨e7, [2, 6, 7, 2216, 2218, 2220, 2221, 2222, 2223, 2224, 2225, 2226]⟩]
theorem x8Ok : UsesOk Tryz.prog X8 := (usesOk_cons e4Ok (usesOk_cons e5Ok (usesOk_cons e6Ok (usesOk_cons e7Ok (usesOk_nil _)))))
def X9 : List Use := [⟨e4, [2, 8, 9]⟩, ⟨e5, [2, 8, 9]⟩, ⟨e6, [2, 8, 9]⟩, ⟨e7, [2, 8, 9, 2216, 2218, 2220, 2221, 2222, 2223, 2224, 2225, 2226]⟩]
theorem x9Ok : UsesOk Tryz.prog X9 := (usesOk_cons e4Ok (usesOk_cons e5Ok (usesOk_cons e6Ok (usesOk_cons e7Ok (usesOk_nil _)))))
def X10 : List Use := [⟨e8, [1]⟩, ⟨e9, [1]⟩, ⟨e10, [1]⟩, ⟨e11, [1, 2161, 2163, 2165, 2166, 2167, 2168, 2169, 2170, 2171]⟩]
theorem x10Ok : UsesOk Tryz.prog X10 := (usesOk_cons e8Ok (usesOk_cons e9Ok (usesOk_cons e10Ok (usesOk_cons e11Ok (usesOk_nil _)))))
def X11 : List Use := [⟨e8, [2, 3]⟩, ⟨e9, [2, 3]⟩, ⟨e10, [2, 3]⟩, ⟨e11, [2, 3, 2161, 2163, 2165, 2166, 2167, 2168, 2169, 2170, 2171]⟩]
theorem x11Ok : UsesOk Tryz.prog X11 := (usesOk_cons e8Ok (usesOk_cons e9Ok (usesOk_cons e10Ok (usesOk_cons e11Ok (usesOk_nil _)))))
def X12 : List Use := [⟨e8, [2, 4, 5]⟩, ⟨e9, [2, 4, 5]⟩, ⟨e10, [2, 4, 5]⟩, ⟨e11, [2, 4, 5, 2161, 2163, 2165, 2166, 2167, 2168, 2169, 2170, 2171]⟩]
theorem x12Ok : UsesOk Tryz.prog X12 := (usesOk_cons e8Ok (usesOk_cons e9Ok (usesOk_cons e10Ok (usesOk_cons e11Ok (usesOk_nil _)))))
def X13 : List Use := [⟨e8, [2, 6, 7]⟩, ⟨e9, [2, 6, 7]⟩, ⟨e10, [2, 6, 7]⟩, ⟨e11, [2, 6, 7, 2161, 2163, 2165, 2166, 2167, 2168, 2169, 2170, 2171]⟩]
theorem x13Ok : UsesOk Tryz.prog X13 := (usesOk_cons e8Ok (usesOk_cons e9Ok (usesOk_cons e10Ok (usesOk_cons e11Ok (usesOk_nil _)))))
def X14 : List Use := [⟨e8, [2, 8, 9]⟩, ⟨e9, [2, 8, 9]⟩, ⟨e10, [2, 8, 9]⟩, ⟨e11, [2, 8, 9, 2161, 2163, 2165, 2166, 2167, 2168, 2169, 2170, 2171]⟩]
theorem x14Ok : UsesOk Tryz.prog X14 := (usesOk_cons e8Ok (usesOk_cons e9Ok (usesOk_cons e10Ok (usesOk_cons e11Ok (usesOk_nil _)))))
def X15 : List Use := [⟨e12, [1]⟩, ⟨e13, [1]⟩, ⟨e14, [1]⟩, ⟨e15, [1, 2928, 2930, 2932, 2933, 2934, 2935, 2936, 2937, 2938]⟩]
theorem x15Ok : UsesOk Tryz.prog X15 := (usesOk_cons e12Ok (usesOk_cons e13Ok (usesOk_cons e14Ok (usesOk_cons e15Ok (usesOk_nil _)))))
def X16 : List Use := [⟨e12, [2, 3]⟩, ⟨e13, [2, 3]⟩, ⟨e14, [2, 3]⟩, ⟨e15, [2, 3, 2928, 2930, 2932, 2933, 2934, 2935, 2936, 2937, 2938]⟩]
theorem x16Ok : UsesOk Tryz.prog X16 := (usesOk_cons e12Ok (usesOk_cons e13Ok (usesOk_cons e14Ok (usesOk_cons e15Ok (usesOk_nil _)))))
def X17 : List Use := [⟨e12, [2, 4, 5]⟩, ⟨e13, [2, 4, 5]⟩, ⟨e14, [2, 4, 5]⟩, ⟨e15, [2, 4, 5, 2928, 2930, 2932, 2933, 2934, 2935, 2936, 2937, 2938]⟩]
theorem x17Ok : UsesOk Tryz.prog X17 := (usesOk_cons e12Ok (usesOk_cons e13Ok (usesOk_cons e14Ok (usesOk_cons e15Ok (usesOk_nil _)))))
def X18 : List Use := [⟨e12, [2, 6, 7]⟩, ⟨e13, [2, 6, 7]⟩, ⟨e14, [2, 6, 7]⟩, ⟨e15, [2, 6, 7, 2928, 2930, 2932, 2933, 2934, 2935, 2936, 2937, 2938]⟩]
theorem x18Ok : UsesOk Tryz.prog X18 := (usesOk_cons e12Ok (usesOk_cons e13Ok (usesOk_cons e14Ok (usesOk_cons e15Ok (usesOk_nil _)))))
def X19 : List Use := [⟨e12, [2, 8, 9]⟩, ⟨e13, [2, 8, 9]⟩, ⟨e14, [2, 8, 9]⟩, ⟨e15, [2, 8, 9, 2928, 2930, 2932, 2933, 2934, 2935, 2936, 2937, 2938]⟩]
theorem x19Ok : UsesOk Tryz.prog X19 := (usesOk_cons e12Ok (usesOk_cons e13Ok (usesOk_cons e14Ok (usesOk_cons e15Ok (usesOk_nil _)))))
def X20 : List Use := [⟨e16, [1]⟩, ⟨e17, [1]⟩, ⟨e18, [1]⟩, ⟨e19, [1, 2976, 2978, 2980, 2981, 2982, 2983, 2984, 2985, 2986]⟩]
theorem x20Ok : UsesOk Tryz.prog X20 := (usesOk_cons e16Ok (usesOk_cons e17Ok (usesOk_cons e18Ok (usesOk_cons e19Ok (usesOk_nil _)))))
def X21 : List Use := [⟨e16, [2, 3]⟩, ⟨e17, [2, 3]⟩, ⟨e18, [2, 3]⟩, ⟨e19, [2, 3, 2976, 2978, 2980, 2981, 2982, 2983, 2984, 2985, 2986]⟩]
theorem x21Ok : UsesOk Tryz.prog X21 := (usesOk_cons e16Ok (usesOk_cons e17Ok (usesOk_cons e18Ok (usesOk_cons e19Ok (usesOk_nil _)))))
def X22 : List Use := [⟨e16, [2, 4, 5]⟩, ⟨e17, [2, 4, 5]⟩, ⟨e18, [2, 4, 5]⟩, ⟨e19, [2, 4, 5, 2976, 2978, 2980, 2981, 2982, 2983, 2984, 2985, 2986]⟩]
theorem x22Ok : UsesOk Tryz.prog X22 := (usesOk_cons e16Ok (usesOk_cons e17Ok (usesOk_cons e18Ok (usesOk_cons e19Ok (usesOk_nil _)))))
def X23 : List Use := [⟨e16, [2, 6, 7]⟩, ⟨e17, [2, 6, 7]⟩, ⟨e18, [2, 6, 7]⟩, ⟨e19, [2, 6, 7, 2976, 2978, 2980, 2981, 2982, 2983, 2984, 2985, 2986]⟩]
theorem x23Ok : UsesOk Tryz.prog X23 := (usesOk_cons e16Ok (usesOk_cons e17Ok (usesOk_cons e18Ok (usesOk_cons e19Ok (usesOk_nil _)))))
def X24 : List Use := [⟨e16, [2, 8, 9]⟩, ⟨e17, [2, 8, 9]⟩, ⟨e18, [2, 8, 9]⟩, ⟨e19, [2, 8, 9, 2976, 2978, 2980, 2981, 2982, 2983, 2984, 2985, 2986]⟩]
theorem x24Ok : UsesOk Tryz.prog X24 := (usesOk_cons e16Ok (usesOk_cons e17Ok (usesOk_cons e18Ok (usesOk_cons e19Ok (usesOk_nil _)))))
end Go.Proofs.YtlhhimjohcdniaaGreat.lowerOrder
