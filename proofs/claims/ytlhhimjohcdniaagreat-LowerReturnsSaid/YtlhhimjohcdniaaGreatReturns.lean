/-
  The law LowerReturns holds: whatever the input, it tells true, and leaves all that there was as it was. Nothing is asked.
-/
import Derived.Test.YtlhhimjohcdniaaGreatRows
import Derived.WalkKit
import Derived.ProofKit
import Derived.OpenShut
import Derived.Test.YtlhhimjohcdniaaGreatReturnsC0
import Derived.Test.YtlhhimjohcdniaaGreatReturnsC1
import Derived.Test.YtlhhimjohcdniaaGreatReturnsC2
import Derived.Test.YtlhhimjohcdniaaGreatReturnsC3
import Derived.Test.YtlhhimjohcdniaaGreatReturnsC4
import Derived.Test.YtlhhimjohcdniaaGreatReturnsC5
import Derived.Test.YtlhhimjohcdniaaGreatReturnsC6
import Derived.Test.YtlhhimjohcdniaaGreatReturnsC7
import Derived.Test.YtlhhimjohcdniaaGreatReturnsC8
import Derived.Test.YtlhhimjohcdniaaGreatReturnsC9
import Derived.Test.YtlhhimjohcdniaaGreatReturnsC10
import Derived.Test.YtlhhimjohcdniaaGreatReturnsC11
import Derived.Test.YtlhhimjohcdniaaGreatReturnsC12
import Derived.Test.YtlhhimjohcdniaaGreatReturnsC13
import Derived.Test.YtlhhimjohcdniaaGreatReturnsC14
namespace Go.Proofs.YtlhhimjohcdniaaGreat.lowerReturns
open Go Go.Ag Go.ChangeShapes Go.WideShapes Go.ChangeAt Go.RowKit
set_option linter.unusedVariables false
set_option maxRecDepth 100000

theorem own : ownKnob Tryz.prog.godebug = none := by kernel_rfl

theorem calls_eq (X : List Use) : calls X = Kx Tryz.prog tab gl2 [91, 93] X 200 300 := rfl
noncomputable def ask (K : FF) (args : List Value) (A : AState) : Bool := tellsTrue ((fnG Tryz.prog tab 6).f K args A)
theorem tells_ask (X : List Use) (args : List Value) : tells X args = ask (calls X) args nothing := rfl
theorem ask_eq (X : List Use) (args : List Value) : ask (calls X) args nothing = ask (Kx Tryz.prog tab gl2 [91, 93] X 200 300) args ⟨.nil, Tryz.prog.globals.size⟩ := by rw [calls_eq, start]
theorem knowsX {X : List Use} (hX : UsesOk Tryz.prog X) {args : List Value} (h : tells X args = true) (hp : args.all plainV = true) : Knows Tryz.prog 6 args (.bool true) :=
  quickX_true (pl := [91, 93]) (m0 := 200) (m := 300) mix tabs gl2Ok hX (((tells_ask X args).trans (ask_eq X args)).symm.trans h) hp
theorem calls4_eq (X : List Use) : calls4 X = Kx Tryz.prog tab gl2 [91, 93] X 200 500 := rfl
theorem tells4_ask (X : List Use) (args : List Value) : tells4 X args = ask (calls4 X) args nothing := rfl
theorem ask4_eq (X : List Use) (args : List Value) : ask (calls4 X) args nothing = ask (Kx Tryz.prog tab gl2 [91, 93] X 200 500) args ⟨.nil, Tryz.prog.globals.size⟩ := by rw [calls4_eq, start]
theorem knowsX4 {X : List Use} (hX : UsesOk Tryz.prog X) {args : List Value} (h : tells4 X args = true) (hp : args.all plainV = true) : Knows Tryz.prog 6 args (.bool true) :=
  quickX_true (pl := [91, 93]) (m0 := 200) (m := 500) mix tabs gl2Ok hX (((tells4_ask X args).trans (ask4_eq X args)).symm.trans h) hp
theorem knowsE {X : List Use} (hX : UsesOk Tryz.prog X) {args : List Value} (h : tells X args = true ∨ tells4 X args = true) (hp : args.all plainV = true) : Knows Tryz.prog 6 args (.bool true) :=
  h.elim (fun h => knowsX hX h hp) (fun h => knowsX4 hX h hp)
theorem casesP (n m : Nat) (h : n < 16) (h2 : m < 21) : ∃ X, UsesOk Tryz.prog X ∧ (tells X [.int .i64 (.ofNat n), .int .i64 (.ofNat m)] = true ∨ tells4 X [.int .i64 (.ofNat n), .int .i64 (.ofNat m)] = true) :=
  match n, m, h, h2 with
  | 0, 0, _, _ => ⟨_, x0Ok, .inl c2⟩
  | 0, 1, _, _ => ⟨_, x0Ok, .inl c3⟩
  | 0, 2, _, _ => ⟨_, x0Ok, .inl c4⟩
  | 0, 3, _, _ => ⟨_, x0Ok, .inl c5⟩
  | 0, 4, _, _ => ⟨_, x0Ok, .inl c6⟩
  | 0, 5, _, _ => ⟨_, x0Ok, .inl c7⟩
  | 0, 6, _, _ => ⟨_, x0Ok, .inl c8⟩
  | 0, 7, _, _ => ⟨_, x0Ok, .inl c9⟩
  | 0, 8, _, _ => ⟨_, x0Ok, .inl c10⟩
  | 0, 9, _, _ => ⟨_, x0Ok, .inl c11⟩
  | 0, 10, _, _ => ⟨_, x0Ok, .inl c12⟩
  | 0, 11, _, _ => ⟨_, x0Ok, .inl c13⟩
  | 0, 12, _, _ => ⟨_, x0Ok, .inl c14⟩
  | 0, 13, _, _ => ⟨_, x0Ok, .inl c15⟩
  | 0, 14, _, _ => ⟨_, x0Ok, .inl c16⟩
  | 0, 15, _, _ => ⟨_, x0Ok, .inl c17⟩
  | 0, 16, _, _ => ⟨_, x0Ok, .inl c18⟩
  | 0, 17, _, _ => ⟨_, x0Ok, .inl c19⟩
  | 0, 18, _, _ => ⟨_, x0Ok, .inl c20⟩
  | 0, 19, _, _ => ⟨_, x0Ok, .inl c21⟩
  | 0, 20, _, _ => ⟨_, x0Ok, .inl c22⟩
  | 1, 0, _, _ => ⟨_, x0Ok, .inl c25⟩
  | 1, 1, _, _ => ⟨_, x0Ok, .inl c26⟩
  | 1, 2, _, _ => ⟨_, x0Ok, .inl c27⟩
  | 1, 3, _, _ => ⟨_, x0Ok, .inl c28⟩
  | 1, 4, _, _ => ⟨_, x0Ok, .inl c29⟩
  | 1, 5, _, _ => ⟨_, x0Ok, .inl c30⟩
  | 1, 6, _, _ => ⟨_, x0Ok, .inl c31⟩
  | 1, 7, _, _ => ⟨_, x0Ok, .inl c32⟩
  | 1, 8, _, _ => ⟨_, x0Ok, .inl c33⟩
  | 1, 9, _, _ => ⟨_, x0Ok, .inl c34⟩
  | 1, 10, _, _ => ⟨_, x0Ok, .inl c35⟩
  | 1, 11, _, _ => ⟨_, x0Ok, .inl c36⟩
  | 1, 12, _, _ => ⟨_, x0Ok, .inl c37⟩
  | 1, 13, _, _ => ⟨_, x0Ok, .inl c38⟩
  | 1, 14, _, _ => ⟨_, x0Ok, .inl c39⟩
  | 1, 15, _, _ => ⟨_, x0Ok, .inl c40⟩
  | 1, 16, _, _ => ⟨_, x0Ok, .inl c41⟩
  | 1, 17, _, _ => ⟨_, x0Ok, .inl c42⟩
  | 1, 18, _, _ => ⟨_, x0Ok, .inl c43⟩
  | 1, 19, _, _ => ⟨_, x0Ok, .inl c44⟩
  | 1, 20, _, _ => ⟨_, x0Ok, .inl c45⟩
  | 2, 0, _, _ => ⟨_, x0Ok, .inl c48⟩
  | 2, 1, _, _ => ⟨_, x0Ok, .inl c49⟩
  | 2, 2, _, _ => ⟨_, x0Ok, .inl c50⟩
  | 2, 3, _, _ => ⟨_, x0Ok, .inl c51⟩
  | 2, 4, _, _ => ⟨_, x0Ok, .inl c52⟩
  | 2, 5, _, _ => ⟨_, x0Ok, .inl c53⟩
  | 2, 6, _, _ => ⟨_, x0Ok, .inl c54⟩
  | 2, 7, _, _ => ⟨_, x0Ok, .inl c55⟩
  | 2, 8, _, _ => ⟨_, x0Ok, .inl c56⟩
  | 2, 9, _, _ => ⟨_, x0Ok, .inl c57⟩
  | 2, 10, _, _ => ⟨_, x0Ok, .inl c58⟩
  | 2, 11, _, _ => ⟨_, x0Ok, .inl c59⟩
  | 2, 12, _, _ => ⟨_, x0Ok, .inl c60⟩
  | 2, 13, _, _ => ⟨_, x0Ok, .inl c61⟩
  | 2, 14, _, _ => ⟨_, x0Ok, .inl c62⟩
  | 2, 15, _, _ => ⟨_, x0Ok, .inl c63⟩
  | 2, 16, _, _ => ⟨_, x0Ok, .inl c64⟩
  | 2, 17, _, _ => ⟨_, x0Ok, .inl c65⟩
  | 2, 18, _, _ => ⟨_, x0Ok, .inl c66⟩
  | 2, 19, _, _ => ⟨_, x0Ok, .inl c67⟩
  | 2, 20, _, _ => ⟨_, x0Ok, .inl c68⟩
  | 3, 0, _, _ => ⟨_, x0Ok, .inl c71⟩
  | 3, 1, _, _ => ⟨_, x0Ok, .inl c72⟩
  | 3, 2, _, _ => ⟨_, x0Ok, .inl c73⟩
  | 3, 3, _, _ => ⟨_, x0Ok, .inl c74⟩
  | 3, 4, _, _ => ⟨_, x0Ok, .inl c75⟩
  | 3, 5, _, _ => ⟨_, x0Ok, .inl c76⟩
  | 3, 6, _, _ => ⟨_, x0Ok, .inl c77⟩
  | 3, 7, _, _ => ⟨_, x0Ok, .inl c78⟩
  | 3, 8, _, _ => ⟨_, x0Ok, .inl c79⟩
  | 3, 9, _, _ => ⟨_, x0Ok, .inl c80⟩
  | 3, 10, _, _ => ⟨_, x0Ok, .inl c81⟩
  | 3, 11, _, _ => ⟨_, x0Ok, .inl c82⟩
  | 3, 12, _, _ => ⟨_, x0Ok, .inl c83⟩
  | 3, 13, _, _ => ⟨_, x0Ok, .inl c84⟩
  | 3, 14, _, _ => ⟨_, x0Ok, .inl c85⟩
  | 3, 15, _, _ => ⟨_, x0Ok, .inl c86⟩
  | 3, 16, _, _ => ⟨_, x0Ok, .inl c87⟩
  | 3, 17, _, _ => ⟨_, x0Ok, .inl c88⟩
  | 3, 18, _, _ => ⟨_, x0Ok, .inl c89⟩
  | 3, 19, _, _ => ⟨_, x0Ok, .inl c90⟩
  | 3, 20, _, _ => ⟨_, x0Ok, .inl c91⟩
  | 4, 0, _, _ => ⟨_, x0Ok, .inl c94⟩
  | 4, 1, _, _ => ⟨_, x0Ok, .inl c95⟩
  | 4, 2, _, _ => ⟨_, x0Ok, .inl c96⟩
  | 4, 3, _, _ => ⟨_, x0Ok, .inl c97⟩
  | 4, 4, _, _ => ⟨_, x0Ok, .inl c98⟩
  | 4, 5, _, _ => ⟨_, x0Ok, .inl c99⟩
  | 4, 6, _, _ => ⟨_, x0Ok, .inl c100⟩
  | 4, 7, _, _ => ⟨_, x0Ok, .inl c101⟩
  | 4, 8, _, _ => ⟨_, x0Ok, .inl c102⟩
  | 4, 9, _, _ => ⟨_, x0Ok, .inl c103⟩
  | 4, 10, _, _ => ⟨_, x0Ok, .inl c104⟩
  | 4, 11, _, _ => ⟨_, x0Ok, .inl c105⟩
  | 4, 12, _, _ => ⟨_, x0Ok, .inl c106⟩
  | 4, 13, _, _ => ⟨_, x0Ok, .inl c107⟩
  | 4, 14, _, _ => ⟨_, x0Ok, .inl c108⟩
  | 4, 15, _, _ => ⟨_, x0Ok, .inl c109⟩
  | 4, 16, _, _ => ⟨_, x0Ok, .inl c110⟩
  | 4, 17, _, _ => ⟨_, x0Ok, .inl c111⟩
  | 4, 18, _, _ => ⟨_, x0Ok, .inl c112⟩
  | 4, 19, _, _ => ⟨_, x0Ok, .inl c113⟩
  | 4, 20, _, _ => ⟨_, x0Ok, .inl c114⟩
  | 5, 0, _, _ => ⟨_, x0Ok, .inl c117⟩
  | 5, 1, _, _ => ⟨_, x0Ok, .inl c118⟩
  | 5, 2, _, _ => ⟨_, x0Ok, .inl c119⟩
  | 5, 3, _, _ => ⟨_, x0Ok, .inl c120⟩
  | 5, 4, _, _ => ⟨_, x0Ok, .inl c121⟩
  | 5, 5, _, _ => ⟨_, x0Ok, .inl c122⟩
  | 5, 6, _, _ => ⟨_, x0Ok, .inl c123⟩
  | 5, 7, _, _ => ⟨_, x0Ok, .inl c124⟩
  | 5, 8, _, _ => ⟨_, x0Ok, .inl c125⟩
  | 5, 9, _, _ => ⟨_, x0Ok, .inl c126⟩
  | 5, 10, _, _ => ⟨_, x0Ok, .inl c127⟩
  | 5, 11, _, _ => ⟨_, x0Ok, .inl c128⟩
  | 5, 12, _, _ => ⟨_, x0Ok, .inl c129⟩
  | 5, 13, _, _ => ⟨_, x0Ok, .inl c130⟩
  | 5, 14, _, _ => ⟨_, x0Ok, .inl c131⟩
  | 5, 15, _, _ => ⟨_, x0Ok, .inl c132⟩
  | 5, 16, _, _ => ⟨_, x0Ok, .inl c133⟩
  | 5, 17, _, _ => ⟨_, x0Ok, .inl c134⟩
  | 5, 18, _, _ => ⟨_, x0Ok, .inl c135⟩
  | 5, 19, _, _ => ⟨_, x0Ok, .inl c136⟩
  | 5, 20, _, _ => ⟨_, x0Ok, .inl c137⟩
  | 6, 0, _, _ => ⟨_, x0Ok, .inl c140⟩
  | 6, 1, _, _ => ⟨_, x0Ok, .inl c141⟩
  | 6, 2, _, _ => ⟨_, x0Ok, .inl c142⟩
  | 6, 3, _, _ => ⟨_, x0Ok, .inl c143⟩
  | 6, 4, _, _ => ⟨_, x0Ok, .inl c144⟩
  | 6, 5, _, _ => ⟨_, x0Ok, .inl c145⟩
  | 6, 6, _, _ => ⟨_, x0Ok, .inl c146⟩
  | 6, 7, _, _ => ⟨_, x0Ok, .inl c147⟩
  | 6, 8, _, _ => ⟨_, x0Ok, .inl c148⟩
  | 6, 9, _, _ => ⟨_, x0Ok, .inl c149⟩
  | 6, 10, _, _ => ⟨_, x0Ok, .inl c150⟩
  | 6, 11, _, _ => ⟨_, x0Ok, .inl c151⟩
  | 6, 12, _, _ => ⟨_, x0Ok, .inl c152⟩
  | 6, 13, _, _ => ⟨_, x0Ok, .inl c153⟩
  | 6, 14, _, _ => ⟨_, x0Ok, .inl c154⟩
  | 6, 15, _, _ => ⟨_, x0Ok, .inl c155⟩
  | 6, 16, _, _ => ⟨_, x0Ok, .inl c156⟩
  | 6, 17, _, _ => ⟨_, x0Ok, .inl c157⟩
  | 6, 18, _, _ => ⟨_, x0Ok, .inl c158⟩
  | 6, 19, _, _ => ⟨_, x0Ok, .inl c159⟩
  | 6, 20, _, _ => ⟨_, x0Ok, .inl c160⟩
  | 7, 0, _, _ => ⟨_, x0Ok, .inl c163⟩
  | 7, 1, _, _ => ⟨_, x0Ok, .inl c164⟩
  | 7, 2, _, _ => ⟨_, x0Ok, .inl c165⟩
  | 7, 3, _, _ => ⟨_, x0Ok, .inl c166⟩
  | 7, 4, _, _ => ⟨_, x0Ok, .inl c167⟩
  | 7, 5, _, _ => ⟨_, x0Ok, .inl c168⟩
  | 7, 6, _, _ => ⟨_, x0Ok, .inl c169⟩
  | 7, 7, _, _ => ⟨_, x0Ok, .inl c170⟩
  | 7, 8, _, _ => ⟨_, x0Ok, .inl c171⟩
  | 7, 9, _, _ => ⟨_, x0Ok, .inl c172⟩
  | 7, 10, _, _ => ⟨_, x0Ok, .inl c173⟩
  | 7, 11, _, _ => ⟨_, x0Ok, .inl c174⟩
  | 7, 12, _, _ => ⟨_, x0Ok, .inl c175⟩
  | 7, 13, _, _ => ⟨_, x0Ok, .inl c176⟩
  | 7, 14, _, _ => ⟨_, x0Ok, .inl c177⟩
  | 7, 15, _, _ => ⟨_, x0Ok, .inl c178⟩
  | 7, 16, _, _ => ⟨_, x0Ok, .inl c179⟩
  | 7, 17, _, _ => ⟨_, x0Ok, .inl c180⟩
  | 7, 18, _, _ => ⟨_, x0Ok, .inl c181⟩
  | 7, 19, _, _ => ⟨_, x0Ok, .inl c182⟩
  | 7, 20, _, _ => ⟨_, x0Ok, .inl c183⟩
  | 8, 0, _, _ => ⟨_, x0Ok, .inl c186⟩
  | 8, 1, _, _ => ⟨_, x0Ok, .inl c187⟩
  | 8, 2, _, _ => ⟨_, x0Ok, .inl c188⟩
  | 8, 3, _, _ => ⟨_, x0Ok, .inl c189⟩
  | 8, 4, _, _ => ⟨_, x0Ok, .inl c190⟩
  | 8, 5, _, _ => ⟨_, x0Ok, .inl c191⟩
  | 8, 6, _, _ => ⟨_, x0Ok, .inl c192⟩
  | 8, 7, _, _ => ⟨_, x0Ok, .inl c193⟩
  | 8, 8, _, _ => ⟨_, x0Ok, .inl c194⟩
  | 8, 9, _, _ => ⟨_, x0Ok, .inl c195⟩
  | 8, 10, _, _ => ⟨_, x0Ok, .inl c196⟩
  | 8, 11, _, _ => ⟨_, x0Ok, .inl c197⟩
  | 8, 12, _, _ => ⟨_, x0Ok, .inl c198⟩
  | 8, 13, _, _ => ⟨_, x0Ok, .inl c199⟩
  | 8, 14, _, _ => ⟨_, x0Ok, .inl c200⟩
  | 8, 15, _, _ => ⟨_, x0Ok, .inl c201⟩
  | 8, 16, _, _ => ⟨_, x0Ok, .inl c202⟩
  | 8, 17, _, _ => ⟨_, x0Ok, .inl c203⟩
  | 8, 18, _, _ => ⟨_, x0Ok, .inl c204⟩
  | 8, 19, _, _ => ⟨_, x0Ok, .inl c205⟩
  | 8, 20, _, _ => ⟨_, x0Ok, .inl c206⟩
  | 9, 0, _, _ => ⟨_, x0Ok, .inl c209⟩
  | 9, 1, _, _ => ⟨_, x0Ok, .inl c210⟩
  | 9, 2, _, _ => ⟨_, x0Ok, .inl c211⟩
  | 9, 3, _, _ => ⟨_, x0Ok, .inl c212⟩
  | 9, 4, _, _ => ⟨_, x0Ok, .inl c213⟩
  | 9, 5, _, _ => ⟨_, x0Ok, .inl c214⟩
  | 9, 6, _, _ => ⟨_, x0Ok, .inl c215⟩
  | 9, 7, _, _ => ⟨_, x0Ok, .inl c216⟩
  | 9, 8, _, _ => ⟨_, x0Ok, .inl c217⟩
  | 9, 9, _, _ => ⟨_, x0Ok, .inl c218⟩
  | 9, 10, _, _ => ⟨_, x0Ok, .inl c219⟩
  | 9, 11, _, _ => ⟨_, x0Ok, .inl c220⟩
  | 9, 12, _, _ => ⟨_, x0Ok, .inl c221⟩
  | 9, 13, _, _ => ⟨_, x0Ok, .inl c222⟩
  | 9, 14, _, _ => ⟨_, x0Ok, .inl c223⟩
  | 9, 15, _, _ => ⟨_, x0Ok, .inl c224⟩
  | 9, 16, _, _ => ⟨_, x0Ok, .inl c225⟩
  | 9, 17, _, _ => ⟨_, x0Ok, .inl c226⟩
  | 9, 18, _, _ => ⟨_, x0Ok, .inl c227⟩
  | 9, 19, _, _ => ⟨_, x0Ok, .inl c228⟩
  | 9, 20, _, _ => ⟨_, x0Ok, .inl c229⟩
  | 10, 0, _, _ => ⟨_, x0Ok, .inl c232⟩
  | 10, 1, _, _ => ⟨_, x0Ok, .inl c233⟩
  | 10, 2, _, _ => ⟨_, x0Ok, .inl c234⟩
  | 10, 3, _, _ => ⟨_, x0Ok, .inl c235⟩
  | 10, 4, _, _ => ⟨_, x0Ok, .inl c236⟩
  | 10, 5, _, _ => ⟨_, x0Ok, .inl c237⟩
  | 10, 6, _, _ => ⟨_, x0Ok, .inl c238⟩
  | 10, 7, _, _ => ⟨_, x0Ok, .inl c239⟩
  | 10, 8, _, _ => ⟨_, x0Ok, .inl c240⟩
  | 10, 9, _, _ => ⟨_, x0Ok, .inl c241⟩
  | 10, 10, _, _ => ⟨_, x0Ok, .inl c242⟩
  | 10, 11, _, _ => ⟨_, x0Ok, .inl c243⟩
  | 10, 12, _, _ => ⟨_, x0Ok, .inl c244⟩
  | 10, 13, _, _ => ⟨_, x0Ok, .inl c245⟩
  | 10, 14, _, _ => ⟨_, x0Ok, .inl c246⟩
  | 10, 15, _, _ => ⟨_, x0Ok, .inl c247⟩
  | 10, 16, _, _ => ⟨_, x0Ok, .inl c248⟩
  | 10, 17, _, _ => ⟨_, x0Ok, .inl c249⟩
  | 10, 18, _, _ => ⟨_, x0Ok, .inl c250⟩
  | 10, 19, _, _ => ⟨_, x0Ok, .inl c251⟩
  | 10, 20, _, _ => ⟨_, x0Ok, .inl c252⟩
  | 11, 0, _, _ => ⟨_, x0Ok, .inl c255⟩
  | 11, 1, _, _ => ⟨_, x0Ok, .inl c256⟩
  | 11, 2, _, _ => ⟨_, x0Ok, .inl c257⟩
  | 11, 3, _, _ => ⟨_, x0Ok, .inl c258⟩
  | 11, 4, _, _ => ⟨_, x0Ok, .inl c259⟩
  | 11, 5, _, _ => ⟨_, x0Ok, .inl c260⟩
  | 11, 6, _, _ => ⟨_, x0Ok, .inl c261⟩
  | 11, 7, _, _ => ⟨_, x0Ok, .inl c262⟩
  | 11, 8, _, _ => ⟨_, x0Ok, .inl c263⟩
  | 11, 9, _, _ => ⟨_, x0Ok, .inl c264⟩
  | 11, 10, _, _ => ⟨_, x0Ok, .inl c265⟩
  | 11, 11, _, _ => ⟨_, x0Ok, .inl c266⟩
  | 11, 12, _, _ => ⟨_, x0Ok, .inl c267⟩
  | 11, 13, _, _ => ⟨_, x0Ok, .inl c268⟩
  | 11, 14, _, _ => ⟨_, x0Ok, .inl c269⟩
  | 11, 15, _, _ => ⟨_, x0Ok, .inl c270⟩
  | 11, 16, _, _ => ⟨_, x0Ok, .inl c271⟩
  | 11, 17, _, _ => ⟨_, x0Ok, .inl c272⟩
  | 11, 18, _, _ => ⟨_, x0Ok, .inl c273⟩
  | 11, 19, _, _ => ⟨_, x0Ok, .inl c274⟩
  | 11, 20, _, _ => ⟨_, x0Ok, .inl c275⟩
  | 12, 0, _, _ => ⟨_, x0Ok, .inl c278⟩
  | 12, 1, _, _ => ⟨_, x0Ok, .inl c279⟩
  | 12, 2, _, _ => ⟨_, x0Ok, .inl c280⟩
  | 12, 3, _, _ => ⟨_, x0Ok, .inl c281⟩
  | 12, 4, _, _ => ⟨_, x0Ok, .inl c282⟩
  | 12, 5, _, _ => ⟨_, x0Ok, .inl c283⟩
  | 12, 6, _, _ => ⟨_, x0Ok, .inl c284⟩
  | 12, 7, _, _ => ⟨_, x0Ok, .inl c285⟩
  | 12, 8, _, _ => ⟨_, x0Ok, .inl c286⟩
  | 12, 9, _, _ => ⟨_, x0Ok, .inl c287⟩
  | 12, 10, _, _ => ⟨_, x0Ok, .inl c288⟩
  | 12, 11, _, _ => ⟨_, x0Ok, .inl c289⟩
  | 12, 12, _, _ => ⟨_, x0Ok, .inl c290⟩
  | 12, 13, _, _ => ⟨_, x0Ok, .inl c291⟩
  | 12, 14, _, _ => ⟨_, x0Ok, .inl c292⟩
  | 12, 15, _, _ => ⟨_, x0Ok, .inl c293⟩
  | 12, 16, _, _ => ⟨_, x0Ok, .inl c294⟩
  | 12, 17, _, _ => ⟨_, x0Ok, .inl c295⟩
  | 12, 18, _, _ => ⟨_, x0Ok, .inl c296⟩
  | 12, 19, _, _ => ⟨_, x0Ok, .inl c297⟩
  | 12, 20, _, _ => ⟨_, x0Ok, .inl c298⟩
  | 13, 0, _, _ => ⟨_, x0Ok, .inl c301⟩
  | 13, 1, _, _ => ⟨_, x0Ok, .inl c302⟩
  | 13, 2, _, _ => ⟨_, x0Ok, .inl c303⟩
  | 13, 3, _, _ => ⟨_, x0Ok, .inl c304⟩
  | 13, 4, _, _ => ⟨_, x0Ok, .inl c305⟩
  | 13, 5, _, _ => ⟨_, x0Ok, .inl c306⟩
  | 13, 6, _, _ => ⟨_, x0Ok, .inl c307⟩
  | 13, 7, _, _ => ⟨_, x0Ok, .inl c308⟩
  | 13, 8, _, _ => ⟨_, x0Ok, .inl c309⟩
  | 13, 9, _, _ => ⟨_, x0Ok, .inl c310⟩
  | 13, 10, _, _ => ⟨_, x0Ok, .inl c311⟩
  | 13, 11, _, _ => ⟨_, x0Ok, .inl c312⟩
  | 13, 12, _, _ => ⟨_, x0Ok, .inl c313⟩
  | 13, 13, _, _ => ⟨_, x0Ok, .inl c314⟩
  | 13, 14, _, _ => ⟨_, x0Ok, .inl c315⟩
  | 13, 15, _, _ => ⟨_, x0Ok, .inl c316⟩
  | 13, 16, _, _ => ⟨_, x0Ok, .inl c317⟩
  | 13, 17, _, _ => ⟨_, x0Ok, .inl c318⟩
  | 13, 18, _, _ => ⟨_, x0Ok, .inl c319⟩
  | 13, 19, _, _ => ⟨_, x0Ok, .inl c320⟩
  | 13, 20, _, _ => ⟨_, x0Ok, .inl c321⟩
  | 14, 0, _, _ => ⟨_, x0Ok, .inl c324⟩
  | 14, 1, _, _ => ⟨_, x0Ok, .inl c325⟩
  | 14, 2, _, _ => ⟨_, x0Ok, .inl c326⟩
  | 14, 3, _, _ => ⟨_, x0Ok, .inl c327⟩
  | 14, 4, _, _ => ⟨_, x0Ok, .inl c328⟩
  | 14, 5, _, _ => ⟨_, x0Ok, .inl c329⟩
  | 14, 6, _, _ => ⟨_, x0Ok, .inl c330⟩
  | 14, 7, _, _ => ⟨_, x0Ok, .inl c331⟩
  | 14, 8, _, _ => ⟨_, x0Ok, .inl c332⟩
  | 14, 9, _, _ => ⟨_, x0Ok, .inl c333⟩
  | 14, 10, _, _ => ⟨_, x0Ok, .inl c334⟩
  | 14, 11, _, _ => ⟨_, x0Ok, .inl c335⟩
  | 14, 12, _, _ => ⟨_, x0Ok, .inl c336⟩
  | 14, 13, _, _ => ⟨_, x0Ok, .inl c337⟩
  | 14, 14, _, _ => ⟨_, x0Ok, .inl c338⟩
  | 14, 15, _, _ => ⟨_, x0Ok, .inl c339⟩
  | 14, 16, _, _ => ⟨_, x0Ok, .inl c340⟩
  | 14, 17, _, _ => ⟨_, x0Ok, .inl c341⟩
  | 14, 18, _, _ => ⟨_, x0Ok, .inl c342⟩
  | 14, 19, _, _ => ⟨_, x0Ok, .inl c343⟩
  | 14, 20, _, _ => ⟨_, x0Ok, .inl c344⟩
  | 15, 0, _, _ => ⟨_, x0Ok, .inl c347⟩
  | 15, 1, _, _ => ⟨_, x0Ok, .inl c348⟩
  | 15, 2, _, _ => ⟨_, x0Ok, .inl c349⟩
  | 15, 3, _, _ => ⟨_, x0Ok, .inl c350⟩
  | 15, 4, _, _ => ⟨_, x0Ok, .inl c351⟩
  | 15, 5, _, _ => ⟨_, x0Ok, .inl c352⟩
  | 15, 6, _, _ => ⟨_, x0Ok, .inl c353⟩
  | 15, 7, _, _ => ⟨_, x0Ok, .inl c354⟩
  | 15, 8, _, _ => ⟨_, x0Ok, .inl c355⟩
  | 15, 9, _, _ => ⟨_, x0Ok, .inl c356⟩
  | 15, 10, _, _ => ⟨_, x0Ok, .inl c357⟩
  | 15, 11, _, _ => ⟨_, x0Ok, .inl c358⟩
  | 15, 12, _, _ => ⟨_, x0Ok, .inl c359⟩
  | 15, 13, _, _ => ⟨_, x0Ok, .inl c360⟩
  | 15, 14, _, _ => ⟨_, x0Ok, .inl c361⟩
  | 15, 15, _, _ => ⟨_, x0Ok, .inr c362⟩
  | 15, 16, _, _ => ⟨_, x0Ok, .inr c363⟩
  | 15, 17, _, _ => ⟨_, x0Ok, .inr c364⟩
  | 15, 18, _, _ => ⟨_, x0Ok, .inr c365⟩
  | 15, 19, _, _ => ⟨_, x0Ok, .inr c366⟩
  | 15, 20, _, _ => ⟨_, x0Ok, .inr c367⟩
  | n + 16, _, h, _ => absurd h (by omega)
  | _, m + 21, _, h => absurd h (by omega)
theorem casesN (n m : Nat) (h : n < 16) (h2 : m < 2) : ∃ X, UsesOk Tryz.prog X ∧ (tells X [.int .i64 (.ofNat n), .int .i64 (.negSucc m)] = true ∨ tells4 X [.int .i64 (.ofNat n), .int .i64 (.negSucc m)] = true) :=
  match n, m, h, h2 with
  | 0, 1, _, _ => ⟨_, x0Ok, .inl c0⟩
  | 0, 0, _, _ => ⟨_, x0Ok, .inl c1⟩
  | 1, 1, _, _ => ⟨_, x0Ok, .inl c23⟩
  | 1, 0, _, _ => ⟨_, x0Ok, .inl c24⟩
  | 2, 1, _, _ => ⟨_, x0Ok, .inl c46⟩
  | 2, 0, _, _ => ⟨_, x0Ok, .inl c47⟩
  | 3, 1, _, _ => ⟨_, x0Ok, .inl c69⟩
  | 3, 0, _, _ => ⟨_, x0Ok, .inl c70⟩
  | 4, 1, _, _ => ⟨_, x0Ok, .inl c92⟩
  | 4, 0, _, _ => ⟨_, x0Ok, .inl c93⟩
  | 5, 1, _, _ => ⟨_, x0Ok, .inl c115⟩
  | 5, 0, _, _ => ⟨_, x0Ok, .inl c116⟩
  | 6, 1, _, _ => ⟨_, x0Ok, .inl c138⟩
  | 6, 0, _, _ => ⟨_, x0Ok, .inl c139⟩
  | 7, 1, _, _ => ⟨_, x0Ok, .inl c161⟩
  | 7, 0, _, _ => ⟨_, x0Ok, .inl c162⟩
  | 8, 1, _, _ => ⟨_, x0Ok, .inl c184⟩
  | 8, 0, _, _ => ⟨_, x0Ok, .inl c185⟩
  | 9, 1, _, _ => ⟨_, x0Ok, .inl c207⟩
  | 9, 0, _, _ => ⟨_, x0Ok, .inl c208⟩
  | 10, 1, _, _ => ⟨_, x0Ok, .inl c230⟩
  | 10, 0, _, _ => ⟨_, x0Ok, .inl c231⟩
  | 11, 1, _, _ => ⟨_, x0Ok, .inl c253⟩
  | 11, 0, _, _ => ⟨_, x0Ok, .inl c254⟩
  | 12, 1, _, _ => ⟨_, x0Ok, .inl c276⟩
  | 12, 0, _, _ => ⟨_, x0Ok, .inl c277⟩
  | 13, 1, _, _ => ⟨_, x0Ok, .inl c299⟩
  | 13, 0, _, _ => ⟨_, x0Ok, .inl c300⟩
  | 14, 1, _, _ => ⟨_, x0Ok, .inl c322⟩
  | 14, 0, _, _ => ⟨_, x0Ok, .inl c323⟩
  | 15, 1, _, _ => ⟨_, x0Ok, .inr c345⟩
  | 15, 0, _, _ => ⟨_, x0Ok, .inr c346⟩
  | n + 16, _, h, _ => absurd h (by omega)
  | _, m + 2, _, h => absurd h (by omega)
theorem o0_0 (n m : Nat) : tells [] [.int .i64 (.negSucc 0), .int .i64 (.ofNat 0)] = true := by kernel_rfl
theorem o0_1 (n m : Nat) : tells [] [.int .i64 (.negSucc 0), .int .i64 (.ofNat (m + 1))] = true := by kernel_rfl
theorem o0_2 (n m : Nat) : tells [] [.int .i64 (.negSucc 0), .int .i64 (.negSucc 0)] = true := by kernel_rfl
theorem o0_3 (n m : Nat) : tells [] [.int .i64 (.negSucc 0), .int .i64 (.negSucc (m + 1))] = true := by kernel_rfl
theorem o0 (n : Nat) (b : Int) : tells [] [.int .i64 (.negSucc 0), .int .i64 b] = true := by
  cases b with
  | ofNat m => cases m with
    | zero => exact o0_0 n 0
    | succ m => exact o0_1 n m
  | negSucc m => cases m with
    | zero => exact o0_2 n 0
    | succ m => exact o0_3 n m
theorem o1_0 (n m : Nat) : tells [] [.int .i64 (.negSucc (n + 1)), .int .i64 (.ofNat 0)] = true := by kernel_rfl
theorem o1_1 (n m : Nat) : tells [] [.int .i64 (.negSucc (n + 1)), .int .i64 (.ofNat (m + 1))] = true := by kernel_rfl
theorem o1_2 (n m : Nat) : tells [] [.int .i64 (.negSucc (n + 1)), .int .i64 (.negSucc 0)] = true := by kernel_rfl
theorem o1_3 (n m : Nat) : tells [] [.int .i64 (.negSucc (n + 1)), .int .i64 (.negSucc (m + 1))] = true := by kernel_rfl
theorem o1 (n : Nat) (b : Int) : tells [] [.int .i64 (.negSucc (n + 1)), .int .i64 b] = true := by
  cases b with
  | ofNat m => cases m with
    | zero => exact o1_0 n 0
    | succ m => exact o1_1 n m
  | negSucc m => cases m with
    | zero => exact o1_2 n 0
    | succ m => exact o1_3 n m
theorem o2_0 (n m : Nat) : tells [] [.int .i64 (.ofNat (n + 16)), .int .i64 (.ofNat 0)] = true := by kernel_rfl
theorem o2_1 (n m : Nat) : tells [] [.int .i64 (.ofNat (n + 16)), .int .i64 (.ofNat (m + 1))] = true := by kernel_rfl
theorem o2_2 (n m : Nat) : tells [] [.int .i64 (.ofNat (n + 16)), .int .i64 (.negSucc 0)] = true := by kernel_rfl
theorem o2_3 (n m : Nat) : tells [] [.int .i64 (.ofNat (n + 16)), .int .i64 (.negSucc (m + 1))] = true := by kernel_rfl
theorem o2 (n : Nat) (b : Int) : tells [] [.int .i64 (.ofNat (n + 16)), .int .i64 b] = true := by
  cases b with
  | ofNat m => cases m with
    | zero => exact o2_0 n 0
    | succ m => exact o2_1 n m
  | negSucc m => cases m with
    | zero => exact o2_2 n 0
    | succ m => exact o2_3 n m
theorem p0_0 (m : Nat) : tells [] [.int .i64 (.ofNat 0), .int .i64 (.ofNat (m + 21))] = true := by kernel_rfl
theorem p0_1 (m : Nat) : tells [] [.int .i64 (.ofNat 0), .int .i64 (.negSucc (m + 2))] = true := by kernel_rfl
theorem p1_0 (m : Nat) : tells [] [.int .i64 (.ofNat 1), .int .i64 (.ofNat (m + 21))] = true := by kernel_rfl
theorem p1_1 (m : Nat) : tells [] [.int .i64 (.ofNat 1), .int .i64 (.negSucc (m + 2))] = true := by kernel_rfl
theorem p2_0 (m : Nat) : tells [] [.int .i64 (.ofNat 2), .int .i64 (.ofNat (m + 21))] = true := by kernel_rfl
theorem p2_1 (m : Nat) : tells [] [.int .i64 (.ofNat 2), .int .i64 (.negSucc (m + 2))] = true := by kernel_rfl
theorem p3_0 (m : Nat) : tells [] [.int .i64 (.ofNat 3), .int .i64 (.ofNat (m + 21))] = true := by kernel_rfl
theorem p3_1 (m : Nat) : tells [] [.int .i64 (.ofNat 3), .int .i64 (.negSucc (m + 2))] = true := by kernel_rfl
theorem p4_0 (m : Nat) : tells [] [.int .i64 (.ofNat 4), .int .i64 (.ofNat (m + 21))] = true := by kernel_rfl
theorem p4_1 (m : Nat) : tells [] [.int .i64 (.ofNat 4), .int .i64 (.negSucc (m + 2))] = true := by kernel_rfl
theorem p5_0 (m : Nat) : tells [] [.int .i64 (.ofNat 5), .int .i64 (.ofNat (m + 21))] = true := by kernel_rfl
theorem p5_1 (m : Nat) : tells [] [.int .i64 (.ofNat 5), .int .i64 (.negSucc (m + 2))] = true := by kernel_rfl
theorem p6_0 (m : Nat) : tells [] [.int .i64 (.ofNat 6), .int .i64 (.ofNat (m + 21))] = true := by kernel_rfl
theorem p6_1 (m : Nat) : tells [] [.int .i64 (.ofNat 6), .int .i64 (.negSucc (m + 2))] = true := by kernel_rfl
theorem p7_0 (m : Nat) : tells [] [.int .i64 (.ofNat 7), .int .i64 (.ofNat (m + 21))] = true := by kernel_rfl
theorem p7_1 (m : Nat) : tells [] [.int .i64 (.ofNat 7), .int .i64 (.negSucc (m + 2))] = true := by kernel_rfl
theorem p8_0 (m : Nat) : tells [] [.int .i64 (.ofNat 8), .int .i64 (.ofNat (m + 21))] = true := by kernel_rfl
theorem p8_1 (m : Nat) : tells [] [.int .i64 (.ofNat 8), .int .i64 (.negSucc (m + 2))] = true := by kernel_rfl
theorem p9_0 (m : Nat) : tells [] [.int .i64 (.ofNat 9), .int .i64 (.ofNat (m + 21))] = true := by kernel_rfl
theorem p9_1 (m : Nat) : tells [] [.int .i64 (.ofNat 9), .int .i64 (.negSucc (m + 2))] = true := by kernel_rfl
theorem p10_0 (m : Nat) : tells [] [.int .i64 (.ofNat 10), .int .i64 (.ofNat (m + 21))] = true := by kernel_rfl
theorem p10_1 (m : Nat) : tells [] [.int .i64 (.ofNat 10), .int .i64 (.negSucc (m + 2))] = true := by kernel_rfl
theorem p11_0 (m : Nat) : tells [] [.int .i64 (.ofNat 11), .int .i64 (.ofNat (m + 21))] = true := by kernel_rfl
theorem p11_1 (m : Nat) : tells [] [.int .i64 (.ofNat 11), .int .i64 (.negSucc (m + 2))] = true := by kernel_rfl
theorem p12_0 (m : Nat) : tells [] [.int .i64 (.ofNat 12), .int .i64 (.ofNat (m + 21))] = true := by kernel_rfl
theorem p12_1 (m : Nat) : tells [] [.int .i64 (.ofNat 12), .int .i64 (.negSucc (m + 2))] = true := by kernel_rfl
theorem p13_0 (m : Nat) : tells [] [.int .i64 (.ofNat 13), .int .i64 (.ofNat (m + 21))] = true := by kernel_rfl
theorem p13_1 (m : Nat) : tells [] [.int .i64 (.ofNat 13), .int .i64 (.negSucc (m + 2))] = true := by kernel_rfl
theorem p14_0 (m : Nat) : tells [] [.int .i64 (.ofNat 14), .int .i64 (.ofNat (m + 21))] = true := by kernel_rfl
theorem p14_1 (m : Nat) : tells [] [.int .i64 (.ofNat 14), .int .i64 (.negSucc (m + 2))] = true := by kernel_rfl
theorem p15_0 (m : Nat) : tells [] [.int .i64 (.ofNat 15), .int .i64 (.ofNat (m + 21))] = true := by kernel_rfl
theorem p15_1 (m : Nat) : tells [] [.int .i64 (.ofNat 15), .int .i64 (.negSucc (m + 2))] = true := by kernel_rfl
theorem p_0 (n m : Nat) (h : n < 16) : tells [] [.int .i64 (.ofNat n), .int .i64 (.ofNat (m + 21))] = true :=
  match n, h with
  | 0, _ => p0_0 m
  | 1, _ => p1_0 m
  | 2, _ => p2_0 m
  | 3, _ => p3_0 m
  | 4, _ => p4_0 m
  | 5, _ => p5_0 m
  | 6, _ => p6_0 m
  | 7, _ => p7_0 m
  | 8, _ => p8_0 m
  | 9, _ => p9_0 m
  | 10, _ => p10_0 m
  | 11, _ => p11_0 m
  | 12, _ => p12_0 m
  | 13, _ => p13_0 m
  | 14, _ => p14_0 m
  | 15, _ => p15_0 m
  | n + 16, h => absurd h (by omega)
theorem p_1 (n m : Nat) (h : n < 16) : tells [] [.int .i64 (.ofNat n), .int .i64 (.negSucc (m + 2))] = true :=
  match n, h with
  | 0, _ => p0_1 m
  | 1, _ => p1_1 m
  | 2, _ => p2_1 m
  | 3, _ => p3_1 m
  | 4, _ => p4_1 m
  | 5, _ => p5_1 m
  | 6, _ => p6_1 m
  | 7, _ => p7_1 m
  | 8, _ => p8_1 m
  | 9, _ => p9_1 m
  | 10, _ => p10_1 m
  | 11, _ => p11_1 m
  | 12, _ => p12_1 m
  | 13, _ => p13_1 m
  | 14, _ => p14_1 m
  | 15, _ => p15_1 m
  | n + 16, h => absurd h (by omega)
theorem walk (a0 : Int) (a1 : Int) (w0 : (Lit.int .i64 a0).wf = true) (w1 : (Lit.int .i64 a1).wf = true) (w : World) :
    Calls Tryz.prog 6 #[.int .i64 a0, .int .i64 a1] w fun e w' => e = .returned (.bool true) ∧ Kept w w' := by
  have hk : Knows Tryz.prog 6 [.int .i64 a0, .int .i64 a1] (.bool true) := by
    cases a0 with
    | negSucc n =>
      cases n with
      | zero => exact knowsX (usesOk_nil _) (o0 0 a1) rfl
      | succ n => exact knowsX (usesOk_nil _) (o1 n a1) rfl
    | ofNat n =>
      by_cases h : n < 16
      · cases a1 with
        | ofNat m =>
          by_cases h2 : m < 21
          · obtain ⟨X, hX, h⟩ := casesP n m h h2
            exact knowsE hX h rfl
          · obtain ⟨k, rfl⟩ : ∃ k, m = k + 21 := ⟨m - 21, by omega⟩
            exact knowsX (usesOk_nil _) (p_0 n k h) rfl
        | negSucc m =>
          by_cases h2 : m < 2
          · obtain ⟨X, hX, h⟩ := casesN n m h h2
            exact knowsE hX h rfl
          · obtain ⟨k, rfl⟩ : ∃ k, m = k + 2 := ⟨m - 2, by omega⟩
            exact knowsX (usesOk_nil _) (p_1 n k h) rfl
      · obtain ⟨k, rfl⟩ : ∃ k, n = k + 16 := ⟨n - 16, by omega⟩
        exact knowsX (usesOk_nil _) (o2 k a1) rfl
  exact (hk.calls w).mono fun e w' h => ⟨h.1, h.2.1⟩

/-! ### THE ROW's STEP: WRITTEN OUT: LEAVE IT -/
set_option maxRecDepth 100000 in
theorem lifted (os : Os) (started : os.Started) (H : Type) (enc : TypeId × Value → H) :
    ReturnsInHanded {} Tryz.checked os 6 .any (Rows.lowerReturnsSpec.pre6 enc Tryz.prog Tryz.f6 Rows.lowerReturnsRow.domain false) (Rows.lowerReturnsSpec.post enc Tryz.prog Tryz.f6 false true false false) := by
  refine returnsInHanded_of_change (C := Tryz.checked) own started (by kernel_rfl) Tryz.func6
    (ChangeSpec.witness6 (enc := enc) (C := Tryz.checked) false ⟨#[], #[.int .i64 0, .int .i64 0], []⟩ 8 (by kernel_rfl) (by kernel_rfl) (by kernel_rfl) (by kernel_rfl)) ?_
  intro W base args ds gs before hval0 hW hcnd _
  have hval : ∀ (j : Nat) t v, Tryz.f6.params[j]? = some t → args[j]? = some v → Value.okWide Tryz.prog W .any base t v := hval0
  have hW' := hW
  obtain ⟨p, q, hA0, hV, rfl, hfz, hnd⟩ := hW
  have hA : DataW.TrodAll enc Tryz.prog W 0 (fun _ => true) true Tryz.f6.params.toList args.toList ds p := hA0
  rw [Tryz.params6] at hA hval
  obtain ⟨v0, vs0, d0, ds0, p0, q0, hargs, rfl, rfl, h0, r0⟩ := trodAll_cons hA
  obtain ⟨v1, vs1, d1, ds1, p1, q1, rfl, rfl, rfl, h1, r1⟩ := trodAll_cons r0
  obtain ⟨rfl, rfl, rfl⟩ := trodAll_nil r1
  obtain rfl : args = #[v0, v1] := by cases args; simp_all
  obtain ⟨rfl, rfl⟩ := trodVars_none hV
  obtain ⟨a0, rfl, rfl, rfl, w0⟩ := open_int Tryz.underlying2 (hval 0 2 v0 rfl rfl) h0
  obtain ⟨a1, rfl, rfl, rfl, w1⟩ := open_int Tryz.underlying2 (hval 1 2 v1 rfl rfl) h1
  clear hA0 hval0
  simp only [List.append_nil] at hW'
  refine (walk a0 a1 w0 w1 W).mono fun e W' ⟨he, hg⟩ => ?_
  subst he
  exact ⟨_, rfl, post_of_kept (pa := []) (pv := []) hW' (fun _ _ _ => (trodAll_cons_mk (shut_bool Tryz.underlying4 _) trodAll_mk0)) (fun sp _ => (trodAll_cons_mk (shut_int Tryz.underlying2 w0) (trodAll_cons_mk (shut_int Tryz.underlying2 w1) trodAll_mk0))) (fun _ _ => rfl) rfl
    hg (ok_one (by kernel_rfl) rfl (okWide_bool_mk Tryz.underlying4 _))⟩

theorem fact0 : laidOutB Tryz.pinned.checked.prog = true := by kernel_rfl
theorem fact1 : mapsRowed Tryz.pinned.checked.prog = true := by kernel_rfl
theorem fact2 : (Tryz.pinned.checked.prog.stops == []) = true := by kernel_rfl
theorem fact3 : (Tryz.pinned.checked.prog.stopKnobs == []) = true := by kernel_rfl
theorem fact4 : (Rows.lowerReturnsRow.inPlace == Tryz.pinned.checked.prog.inPlace 6) = true := by kernel_rfl
theorem fact5 : (Rows.lowerReturnsRow.unfollowed == Tryz.pinned.checked.prog.unfollowed 6) = true := by kernel_rfl
theorem fact6 : (Rows.lowerReturnsRow.recurses == Tryz.pinned.checked.prog.recurses 6) = true := by kernel_rfl
theorem fact7 : (Rows.lowerReturnsRow.named == Tryz.pinned.checked.prog.varsNamed 6) = true := by kernel_rfl
theorem fact8 : (Rows.lowerReturnsRow.plainKeys == Tryz.pinned.checked.prog.plainKeys) = true := by kernel_rfl
theorem fact9 : Tryz.pinned.checked.prog.stopsHeard = true := by kernel_rfl
theorem fact10 : Tryz.pinned.checked.prog.mayEnter = true := by kernel_rfl
theorem fact11 : (Rows.lowerReturnsRow.lifted == Tryz.pinned.checked.prog.liftsFinal) = true := by kernel_rfl
theorem fact12 : (Tryz.pinned.checked.prog.make == some Rows.lowerReturnsRow.make) = true := by kernel_rfl
theorem factNamed : Tryz.pinned.checked.prog.funcNamed Rows.lowerReturnsRow.func = some 6 := by kernel_rfl
theorem factInst : Tryz.f6.isInstance Tryz.pinned.checked.prog Rows.lowerReturnsRow.origin Rows.lowerReturnsRow.targs := of_decide_eq_true (by kernel_rfl)
theorem factWrap : Tryz.f6.isWrapper Tryz.pinned.checked.prog Rows.lowerReturnsRow.wrapper Rows.lowerReturnsRow.mainSum := by unfold Func.isWrapper; first | (rw [if_pos (by decide +kernel)]; kernel_rfl) | (rw [if_neg (by decide +kernel)]; exact ⟨rfl, rfl⟩)
theorem facts : joinedFacts Tryz.pinned.checked.prog 6 Tryz.f6 Rows.lowerReturnsSpec Rows.lowerReturnsRow = true := by
  unfold joinedFacts
  rw [fact0, fact1, fact2, fact3, fact4, fact5, fact6, fact7, fact8, fact9, fact10, fact11, fact12]
  kernel_rfl

theorem over : Rows.lowerReturnsRow.holds Tryz.pinned (OpenSpec.ofChange Rows.lowerReturnsSpec) :=
  OpenClaim.holds_of_wide 6 Tryz.f6 rfl rfl rfl rfl rfl rfl rfl ⟨rfl, rfl, rfl, rfl, rfl⟩ rfl rfl rfl rfl rfl factNamed Tryz.func6 facts
    factInst factWrap
    (fun os started H enc _ => lifted os started H enc)

/-- ████ THE STATEMENT ████ -/
theorem proved : Rows.LowerReturnsSaid :=
  over
#print axioms proved
end Go.Proofs.YtlhhimjohcdniaaGreat.lowerReturns
