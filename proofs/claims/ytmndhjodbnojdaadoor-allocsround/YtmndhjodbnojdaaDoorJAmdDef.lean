/-
  Made: its contract: definitions.
-/
import Derived.Test.YtmndhjodbnojdaaDoorJAbn
set_option linter.unusedSimpArgs false
set_option linter.unusedVariables false
namespace Go.Proofs.YtmndhjodbnojdaaDoor
open Go.Ev

noncomputable def md4 (S : MS) : MS := mLoad (ppS3 S) 6 (IntKind.i64.wrap ((ppO3 S).sl.tdiv 8)) 0
noncomputable def md5 (S : MS) : MS := mLoad (md4 S) 2 0 0
noncomputable def md6 (S : MS) : MS := mStore (md5 S) 9 (ppO3 S).sl 1 (mget (md4 S).M (key 2 0 0))
noncomputable def mdG0 (S : MS) : Int := hdrG (mget (md6 S).M (key 9 (ppO3 S).sl 0))
noncomputable def md7 (S : MS) : MS := mLoad (md6 S) 9 (ppO3 S).sl 0
noncomputable def md8 (S : MS) : MS := mStore (md7 S) 9 (ppO3 S).sl 0 (hdr 1 (mdG0 S))
/-- One alone gets a slot: what it gets, the memory then. -/
noncomputable def mdX : MS → MS := hide md8
noncomputable def mdS : MS → Int := hide (fun S => (ppO3 S).sl)
noncomputable def mdG : MS → Int := hide mdG0
theorem mdX_eq (S : MS) : mdX S = md8 S := congrFun (hide_eq md8) S
theorem mdS_eq (S : MS) : mdS S = (ppO3 S).sl := congrFun (hide_eq (fun S => (ppO3 S).sl)) S
theorem mdG_eq (S : MS) : mdG S = mdG0 S := congrFun (hide_eq mdG0) S
theorem hdrG_r (w : Int) : 0 ≤ hdrG w ∧ hdrG w < 4294967296 := by unfold hdrG; omega
structure MdOk (S : MS) : Prop where
  u : U64 S
  c1 : ¬ (ppO1 S).ln = 0
  c2 : ¬ (ppO2 S).ln = 0
  c3 : (ppO3 S).ln = 0
  c4 : (ppO3 S).ok = true
  c5 : ¬ mget (ppS3 S).M (key 6 (IntKind.i64.wrap ((ppO3 S).sl.tdiv 8)) 0) = 2
noncomputable def EAm : Env := envG Tryd.prog ([(15, locSP popSpec), (108, tabSP 0 tab ahrS), (94, tabSP 0 tab hdrS)] ++ memSP)
theorem EAm_ok : EnvOk EAm := envG_ok mgood ⟨locSP_ok popSpec_ok, tabSP_ok rfl ahrS_ok, tabSP_ok rfl hdrS_ok, memSP_ok⟩

noncomputable def mdrH (S : MS) (FT : Nat → Nat → AV) : List (Nat × AO) := [(gnm 0, .arr tab.length (tab.map kindOfV) true 1 FT), (1, .cells 9 (.map 2 :: lsL S.st S.L)), (2, .map 115 S.M)]
noncomputable def mdrR (S : MS) (FT : Nat → Nat → AV) : LR := ⟨2, .tup [.agg [.sym .i64 (ppO3 S).sl, .sym .u32 (mdG0 S), .symb false], .symb true], [(gnm 0, .arr tab.length (tab.map kindOfV) true 1 FT), (1, .cells 9 (.map 2 :: lsL (md8 S).st (md8 S).L)), (2, .map 115 (md8 S).M)], 0, [1, 2], [FT = tabF tab, MdOk S]⟩
structure MnOk (S : MS) : Prop where
  u : U64 S
  c1 : (ppO1 S).ln = 0
  c2 : (ppO1 S).ok = false
theorem not_t {b : Bool} (h : b = false) : (!b) = true := by rw [h]; rfl

noncomputable def mnrH (S : MS) (FT : Nat → Nat → AV) : List (Nat × AO) := [(gnm 0, .arr tab.length (tab.map kindOfV) true 1 FT), (1, .cells 9 (.map 2 :: lsL S.st S.L)), (2, .map 115 S.M)]
noncomputable def mnrR (S : MS) (FT : Nat → Nat → AV) : LR := ⟨2, .tup [.agg [.sym .i64 (-1), .sym .u32 0, .symb false], .symb false], [(gnm 0, .arr tab.length (tab.map kindOfV) true 1 FT), (1, .cells 9 (.map 2 :: lsL (ppS1 S).st (ppS1 S).L)), (2, .map 115 (ppS1 S).M)], 0, [1, 2], [FT = tabF tab, MnOk S]⟩
end Go.Proofs.YtmndhjodbnojdaaDoor
