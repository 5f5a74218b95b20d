/-
  FreesOnce: apart, its body.
-/
import Derived.Test.YtljeiencnpnbkaaDoorUFojDef0
set_option linter.unusedSimpArgs false
set_option linter.unusedVariables false
namespace Go.Proofs.YtljeiencnpnbkaaDoor
open Go.Ev
theorem fja_1 (m : Nat) (f : Nat → Nat → AV) (n : Nat) (S : MS) (T : Nat → FW) (B : Nat → Bool) : roundB EFo 3000 (seqs faA Code.skip) (h0F foF (foU m f n)) [(6, Src.nm 1000)] (locSt foF (fa0 m f n S T) false (foMb (T 6)) 6 []) [] (locSt foF (fa1 m f n S T fun x => false) false (foMb (T 6)) 6 []) =
 some (Ex.norm, [(0 : Nat) = 0,
 (6 : Nat) = 6,
 some 6 = some 6,
 Int.ofNat n = Int.ofNat n,
 (0 : Nat) = 0,
 n = n,
 some n = some n,
 false = false,
 (6 : Nat) ≤ (6 : Nat),
 ∀ (i : Nat), i < 6 → rowV (CM.mk 6 6703903964971298549787012499102923063739682910296196688861780721860882015036773488400937149083451713845015929093243025426876941405973284973216824503042048 [(6, Src.nm 1000)]) foF.sh 0 (lrow 6703903964971298549787012499102923063739682910296196688861780721860882015036773488400937149083451713845015929093243025426876941405973284973216824503042048 2 (fa0 m f n S T).M 6 i) (lrow 6703903964971298549787012499102923063739682910296196688861780721860882015036773488400937149083451713845015929093243025426876941405973284973216824503042048 2 (fa1 m f n S T fun x => false).M 6 i),
 false = false,
 n ≤ n,
 ((BF fun x => false) = fun x j => match nth (ofVal (Value.bool false)).cells j with | some v => v | none => AV.top) ∧ plainSh (List.map kindOf (ofVal (Value.bool false)).cells) = true ∨ ∀ (i : Nat), i < n → rowOb (List.map kindOf (ofVal (Value.bool false)).cells) 0 (fun j => match nth (ofVal (Value.bool false)).cells j with | some v => v | none => AV.top) (BF (fun x => false) i),
 true = true,
 (1 : Nat) ≤ (1 : Nat),
 tabF tab = tabF tab ∧ plainSh (List.map kindOfV tab) = true ∨ ∀ (i : Nat), i < 1 → rowOb (List.map kindOfV tab) 0 (tabF tab i) (tabF tab i),
 S.st = S.st,
 S.L.c = S.L.c,
 S.L.k = S.L.k,
 S.L.a = S.L.a,
 S.L.f = S.L.f,
 S.L.w = S.L.w,
 S.L.i = S.L.i,
 S.L.d = S.L.d,
 ∀ (k : List Int), S.M k = S.M k,
 true = true,
 m ≤ m,
 f = f ∧ plainSh [CK.int IntKind.u8] = true ∨ ∀ (i : Nat), i < m → rowOb [CK.int IntKind.u8] 0 (f i) (f i),
 (decide (0 ≤ Int.ofNat n) && decide (Int.ofNat n ≤ Int.ofNat n) && decide (1 * Int.ofNat n ≤ 140737488355328) && decide (Int.ofNat n ≤ 9223372036854775807)) = true]) := by kernel_rfl
theorem fjb_1 (m : Nat) (f : Nat → Nat → AV) (n : Nat) (S : MS) (T : Nat → FW) (B : Nat → Bool) : roundB EFo 3000 faR2 (h0F foF (foU m f n)) [(6, Src.nm 6)] (locSt foF (fa1 m f n S T fun x => false) false (foMb (T 6)) 6 []) [] (locSt foF (fagS m f n S T 0 fun x => false) false (foMb (T 6)) 6 []) =
 some (Ex.norm, [(0 : Nat) = 0,
 (6 : Nat) = 6,
 some 6 = some 6,
 Int.ofNat n = Int.ofNat n,
 (0 : Nat) = 0,
 n = n,
 some n = some n,
 (0 : Int) = 0,
 false = false,
 (6 : Nat) ≤ (6 : Nat),
 ∀ (i : Nat), i < 6 → rowV (CM.mk 6 6703903964971298549787012499102923063739682910296196688861780721860882015036773488400937149083451713845015929093243025426876941405973284973216824503042048 [(6, Src.nm 6)]) foF.sh 0 (lrow 6703903964971298549787012499102923063739682910296196688861780721860882015036773488400937149083451713845015929093243025426876941405973284973216824503042048 2 (fa1 m f n S T fun x => false).M 6 i) (lrow 6703903964971298549787012499102923063739682910296196688861780721860882015036773488400937149083451713845015929093243025426876941405973284973216824503042048 2 (fagS m f n S T 0 fun x => false).M 6 i),
 false = false,
 n ≤ n,
 ((BF fun x => false) = BF fun x => false) ∧ plainSh [CK.bool] = true ∨ ∀ (i : Nat), i < n → rowOb [CK.bool] 0 (BF (fun x => false) i) (BF (fun x => false) i),
 true = true,
 (1 : Nat) ≤ (1 : Nat),
 tabF tab = tabF tab ∧ plainSh (List.map kindOfV tab) = true ∨ ∀ (i : Nat), i < 1 → rowOb (List.map kindOfV tab) 0 (tabF tab i) (tabF tab i),
 S.st = S.st,
 S.L.c = S.L.c,
 S.L.k = S.L.k,
 S.L.a = S.L.a,
 S.L.f = S.L.f,
 S.L.w = S.L.w,
 S.L.i = S.L.i,
 S.L.d = S.L.d,
 ∀ (k : List Int), S.M k = S.M k,
 true = true,
 m ≤ m,
 f = f ∧ plainSh [CK.int IntKind.u8] = true ∨ ∀ (i : Nat), i < m → rowOb [CK.int IntKind.u8] 0 (f i) (f i)]) := by kernel_rfl
theorem fjc_1 (m : Nat) (f : Nat → Nat → AV) (n : Nat) (S : MS) (T : Nat → FW) (B : Nat → Bool) : roundB EFo 3000 fagL (h0F foF (foU m f n)) [] (locSt foF (fagS m f n S T 6 B) false (foMb (T 6)) 6 []) [Hint.b false] (locSt foF (fa3 m f S T false) false (foMb (T 6)) 6 []) =
 some (Ex.exit 0, [false = false,
 (6 : Nat) ≤ (6 : Nat),
 ∀ (i : Nat), i < 6 → rowV (CM.mk 6 6703903964971298549787012499102923063739682910296196688861780721860882015036773488400937149083451713845015929093243025426876941405973284973216824503042048 []) foF.sh 0 (lrow 6703903964971298549787012499102923063739682910296196688861780721860882015036773488400937149083451713845015929093243025426876941405973284973216824503042048 2 (fagS m f n S T 6 B).M 6 i) (lrow 6703903964971298549787012499102923063739682910296196688861780721860882015036773488400937149083451713845015929093243025426876941405973284973216824503042048 2 (fa3 m f S T false).M 6 i),
 true = true,
 (1 : Nat) ≤ (1 : Nat),
 tabF tab = tabF tab ∧ plainSh (List.map kindOfV tab) = true ∨ ∀ (i : Nat), i < 1 → rowOb (List.map kindOfV tab) 0 (tabF tab i) (tabF tab i),
 S.st = S.st,
 S.L.c = S.L.c,
 S.L.k = S.L.k,
 S.L.a = S.L.a,
 S.L.f = S.L.f,
 S.L.w = S.L.w,
 S.L.i = S.L.i,
 S.L.d = S.L.d,
 ∀ (k : List Int), S.M k = S.M k,
 true = true,
 m ≤ m,
 f = f ∧ plainSh [CK.int IntKind.u8] = true ∨ ∀ (i : Nat), i < m → rowOb [CK.int IntKind.u8] 0 (f i) (f i),
 decide ((6 : Int) < (6 : Int)) = false]) := by kernel_rfl
theorem fjd_1 (m : Nat) (f : Nat → Nat → AV) (n : Nat) (S : MS) (T : Nat → FW) (B : Nat → Bool) : roundB EFo 3000 faD (h0F foF (foU m f n)) [] (locSt foF (fa3 m f S T false) false (foMb (T 6)) 6 []) [] (locSt foF (fa3 m f S T true) false (foMb (T 6)) 6 []) =
 some (Ex.ret, [false = false,
 (6 : Nat) ≤ (6 : Nat),
 ∀ (i : Nat), i < 6 → rowV (CM.mk 6 6703903964971298549787012499102923063739682910296196688861780721860882015036773488400937149083451713845015929093243025426876941405973284973216824503042048 []) foF.sh 0 (lrow 6703903964971298549787012499102923063739682910296196688861780721860882015036773488400937149083451713845015929093243025426876941405973284973216824503042048 2 (fa3 m f S T false).M 6 i) (lrow 6703903964971298549787012499102923063739682910296196688861780721860882015036773488400937149083451713845015929093243025426876941405973284973216824503042048 2 (fa3 m f S T true).M 6 i),
 true = true,
 (1 : Nat) ≤ (1 : Nat),
 tabF tab = tabF tab ∧ plainSh (List.map kindOfV tab) = true ∨ ∀ (i : Nat), i < 1 → rowOb (List.map kindOfV tab) 0 (tabF tab i) (tabF tab i),
 S.st = S.st,
 S.L.c = S.L.c,
 S.L.k = S.L.k,
 S.L.a = S.L.a,
 S.L.f = S.L.f,
 S.L.w = S.L.w,
 S.L.i = S.L.i,
 S.L.d = S.L.d,
 ∀ (k : List Int), S.M k = S.M k,
 true = true,
 m ≤ m,
 f = f ∧ plainSh [CK.int IntKind.u8] = true ∨ ∀ (i : Nat), i < m → rowOb [CK.int IntKind.u8] 0 (f i) (f i)]) := by kernel_rfl
theorem fjb_ex (m : Nat) (f : Nat → Nat → AV) (n : Nat) (S : MS) (T : Nat → FW) (B : Nat → Bool) : FEx Tryd.prog foF (foU m f n) faR2 (fa1 m f n S T (fun _ => false)) .norm (fagS m f n S T 0 (fun _ => false)) := by
  refine fex_loc EFo_ok foFam foSOk 6 false false (mb := foMb (T 6)) (mb' := foMb (T 6)) (fjb_1 m f n S T B) (cj ⟨rfl, rfl, rfl, rfl, rfl, rfl, rfl, rfl, rfl, Nat.le_refl _, fa_rows6 (Nat.le_refl _) T, rfl, Nat.le_refl _, .inl ⟨rfl, rfl⟩, rfl, Nat.le_refl _, .inl ⟨rfl, rfl⟩, rfl, rfl, rfl, rfl, rfl, rfl, rfl, rfl, (fun _ => rfl), rfl, Nat.le_refl _, .inl ⟨rfl, rfl⟩, trivial⟩) fa1Good foGood (fun h => by cases h) rfl rfl (.inr ⟨rfl, Nat.le_refl _⟩) (fun k hk _ => ⟨hk, rfl⟩)
theorem fjc_ex (m : Nat) (f : Nat → Nat → AV) (n : Nat) (S : MS) (T : Nat → FW) (B : Nat → Bool) : FEx Tryd.prog foF (foU m f n) fagL (fagS m f n S T 6 B) (.exit 0) (fa3 m f S T false) := by
  refine fex_loc EFo_ok foFam foSOk 6 false false (mb := foMb (T 6)) (mb' := foMb (T 6)) (fjc_1 m f n S T B) (cj ⟨rfl, Nat.le_refl _, fa_rows6 (Nat.le_refl _) T, rfl, Nat.le_refl _, .inl ⟨rfl, rfl⟩, rfl, rfl, rfl, rfl, rfl, rfl, rfl, rfl, (fun _ => rfl), rfl, Nat.le_refl _, .inl ⟨rfl, rfl⟩, rfl, trivial⟩) foGood fa3Good (fun h => by cases h) rfl rfl (.inr ⟨rfl, Nat.le_refl _⟩) (fun k hk _ => ⟨hk, rfl⟩)
theorem fjd_ex (m : Nat) (f : Nat → Nat → AV) (n : Nat) (S : MS) (T : Nat → FW) (B : Nat → Bool) : FEx Tryd.prog foF (foU m f n) faD (fa3 m f S T false) .ret (fa3 m f S T true) := by
  refine fex_loc EFo_ok foFam foSOk 6 false false (mb := foMb (T 6)) (mb' := foMb (T 6)) (fjd_1 m f n S T B) (cj ⟨rfl, Nat.le_refl _, fa_rows6 (Nat.le_refl _) T, rfl, Nat.le_refl _, .inl ⟨rfl, rfl⟩, rfl, rfl, rfl, rfl, rfl, rfl, rfl, rfl, (fun _ => rfl), rfl, Nat.le_refl _, .inl ⟨rfl, rfl⟩, trivial⟩) fa3Good fa3Good (fun h => by cases h) rfl rfl (.inr ⟨rfl, Nat.le_refl _⟩) (fun k hk _ => ⟨hk, rfl⟩)
theorem fja_ex (m : Nat) (f : Nat → Nat → AV) (n : Nat) (S : MS) (T : Nat → FW) (B : Nat → Bool) (hn : n ≤ 60) (hrest : FEx Tryd.prog foF (foU m f n) (.seq (.seq faR2 (.block 0 (.loop fagL))) faD) (fa1 m f n S T (fun _ => false)) .ret (fa3 m f S T true)) : FEx Tryd.prog foF (foU m f n) (seqs faA (.seq (.seq faR2 (.block 0 (.loop fagL))) faD)) (fa0 m f n S T) .ret (fa3 m f S T true) := by
  refine fex_pre EFo_ok foFam foSOk 6 false false (mb := foMb (T 6)) (mb' := foMb (T 6)) (fja_1 m f n S T B) (cj ⟨rfl, rfl, rfl, rfl, rfl, rfl, rfl, rfl, Nat.le_refl _, fa_rows6 (Nat.le_refl _) T, rfl, Nat.le_refl _, .inr (fun i _ => ⟨rfl, trivial⟩), rfl, Nat.le_refl _, .inl ⟨rfl, rfl⟩, rfl, rfl, rfl, rfl, rfl, rfl, rfl, rfl, (fun _ => rfl), rfl, Nat.le_refl _, .inl ⟨rfl, rfl⟩, (by (simp; omega)), trivial⟩) fa0Good fa1Good (fun h => by cases h) rfl rfl (.inr ⟨rfl, Nat.le_refl _⟩) (fun k hk _ => ⟨hk, rfl⟩) hrest
end Go.Proofs.YtljeiencnpnbkaaDoor
