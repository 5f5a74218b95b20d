/-
  Words as a contract.
-/
import Derived.Test.YtmlfmmnnbdlabaaDoorQYg
import Derived.Test.YtmlfmmnnbdlabaaDoorEvWords
set_option linter.unusedSimpArgs false
set_option linter.unusedVariables false
namespace Go.Proofs.YtmlfmmnnbdlabaaDoor
open Go Go.Proofs Go.Shelf Go.Sort Go.Ev

theorem ltA_ltK (x y : K3) : ltA x y = true ↔ ltK x y := ltA_iff x y

theorem flW_get : ∀ (l : List (K3 × Int)) (k c : Nat) (x : K3 × Int), l[k]? = some x → c < 4 → (flW l)[k * 4 + c]? = (cW x)[c]?
  | [], k, c, x, h, _ => by simp at h
  | y :: r, 0, c, x, h, hc => by
    simp at h; subst h
    show (cW y ++ flW r)[0 * 4 + c]? = _
    rw [List.getElem?_append_left (by simp [cW]; omega)]
    simp
  | y :: r, k + 1, c, x, h, hc => by
    have := flW_get r k c x (by simpa using h) hc
    show (cW y ++ flW r)[(k + 1) * 4 + c]? = _
    rw [List.getElem?_append_right (by simp [cW]; omega), ← this]
    congr 1
    simp [cW]; omega

theorem encA_inj {x y : K3} (h : encA x = encA y) : x = y := by
  simp [encA] at h
  exact Prod.ext h.1 (Prod.ext h.2.1 h.2.2)
theorem encA_key (k : List Int) (h : keyWf [.int .u8, .int .i64, .int .i64] k) : ∃ x : K3, keyVal [.int .u8, .int .i64, .int .i64] true k = encA x ∧ k = kA x := by
  match k, h with
  | [a, b, c], _ => exact ⟨(a, b, c), rfl, rfl⟩
  | [], h => exact h.elim
  | [_], h => exact h.elim
  | [_, _], h => exact h.elim
  | _ :: _ :: _ :: _ :: _, h => exact h.elim

/-- What the walk gives is the words of f, in order. -/
theorem wl_of {es : Array MapEntry} {f : List Int → Option Int} (hm : MapRep [.int .u8, .int .i64, .int .i64] true .u64 es.toList f) {ss : List K3} (hS : (ss.map encA).Perm (es.toList.map (·.key))) : IsWl f (emA f (srtA ss)) := by
  obtain ⟨kl, hes, hnd, hkw, hf⟩ := hm
  have hkeys : es.toList.map (·.key) = kl.map (fun x => keyVal [.int .u8, .int .i64, .int .i64] true x.1) := by
    have := congrArg (List.map Prod.fst) hes
    simpa [List.map_map, Function.comp_def] using this
  have hwf : ∀ x : K3, keyWf [.int .u8, .int .i64, .int .i64] (kA x) := fun x => by simp [kA, keyWf]
  have hmem : ∀ x : K3, x ∈ ss ↔ kA x ∈ kl.map (·.1) := fun x => by
    have h1 : x ∈ ss ↔ encA x ∈ ss.map encA := by
      rw [List.mem_map]
      exact ⟨fun h => ⟨x, h, rfl⟩, fun ⟨y, hy, e⟩ => by rw [← encA_inj e]; exact hy⟩
    rw [h1, hS.mem_iff, hkeys, List.mem_map, List.mem_map]
    constructor
    · rintro ⟨y, hy, e⟩
      obtain ⟨z, hz, hk⟩ := encA_key y.1 (hkw y hy)
      rw [hz] at e
      exact ⟨y, hy, by rw [hk, encA_inj e]⟩
    · rintro ⟨y, hy, e⟩
      obtain ⟨z, hz, hk⟩ := encA_key y.1 (hkw y hy)
      refine ⟨y, hy, ?_⟩
      rw [hz]
      rw [hk] at e
      simp [kA] at e
      rw [show z = x from Prod.ext e.1 (Prod.ext e.2.1 e.2.2)]
  have hval : ∀ x : K3, x ∉ ss → vfA f x = 0 := fun x hx => by
    have hn : kA x ∉ kl.map (·.1) := fun h => hx ((hmem x).2 h)
    have : f (kA x) = none := by
      rw [hf _ (hwf x)]
      have : kl.find? (fun y => y.1 == kA x) = none := by
        rw [List.find?_eq_none]
        intro y hy e
        exact hn (List.mem_map.2 ⟨y, hy, by simpa using e⟩)
      rw [this]; rfl
    simp [vfA, mget, this]
  have hsnd : ss.Nodup := by
    have h1 : (ss.map encA).Nodup := by
      rw [hS.nodup_iff, hkeys]
      refine List.pairwise_map.2 ((List.pairwise_map.1 hnd).imp_of_mem fun {a b} ha hb hne e => hne ?_)
      obtain ⟨x, hx, hkx⟩ := encA_key a.1 (hkw a ha)
      obtain ⟨y, hy, hky⟩ := encA_key b.1 (hkw b hb)
      rw [hx, hy] at e
      rw [hkx, hky, encA_inj e]
    exact (List.pairwise_map.1 h1).imp (fun h e => h (by rw [e]))
  have hsorted : (srtA ss).Pairwise (fun x y => ltK x y) := by
    have h1 : (srtA ss).Pairwise (fun a b => (!(ltOf cfA) b a) = true) := List.pairwise_mergeSort (fun a b c h1 h2 => by
        simp only [Bool.not_eq_true'] at h1 h2 ⊢
        exact swoA.ntrans c b a h2 h1) (fun a b => by
        cases h : ltOf cfA b a with
        | false => simp
        | true =>
          cases h2 : ltOf cfA a b with
          | false => simp
          | true =>
            have := (ltA_ltK b a).1 h
            have := (ltA_ltK a b).1 h2
            exact (ltK_irrefl _ (ltK_trans ‹ltK b a› ‹ltK a b›)).elim) ss
    have h2 : (srtA ss).Nodup := (srtA_perm ss).nodup_iff.2 hsnd
    refine (h1.and h2).imp fun {a b} ⟨p, q⟩ => ?_
    have hb : ¬ ltK b a := fun h => by
      have := (ltA_ltK b a).2 h
      unfold ltA at this
      rw [this] at p; cases p
    rcases Classical.em (ltK a b) with h | h
    · exact h
    · exact (q (ltK_total h hb)).elim
  refine ⟨?_, fun k v => ?_⟩
  · unfold emA
    refine List.pairwise_filterMap.2 (hsorted.imp fun {a b} hab x hx y hy => ?_)
    split at hx
    · cases hx
    · split at hy
      · cases hy
      · cases hx; cases hy; exact hab
  · unfold emA
    rw [List.mem_filterMap]
    have hvf : vfA f k = mget f (key k.1 k.2.1 k.2.2) := rfl
    constructor
    · rintro ⟨x, hx, e⟩
      split at e
      · cases e
      · rename_i hz; cases e; exact ⟨hvf.symm, hz⟩
    · rintro ⟨e, hz⟩
      refine ⟨k, (srtA_perm ss).mem_iff.2 ?_, ?_⟩
      · rcases Classical.em (k ∈ ss) with h | h
        · exact h
        · exact (hz (by rw [← e, ← hvf]; exact hval k h)).elim
      · rw [hvf, e, if_neg hz]

section
variable (f : List Int → Option Int) (a0 a1 a2 a3 a4 a5 a6 a7 : AV)
noncomputable def wdsR : LR := ⟨2, .ss 4 3 0 (wlF f).length (some (wlF f).length), [(3, .arr 4 wSh false (wlF f).length (wdF (wdAt (wlF f)))), (1, .cells 9 [.map 2, a0, a1, a2, a3, a4, a5, a6, a7]), (2, .map 76 f)], 1, [], [FinM f 1000000]⟩
theorem wds_loc : LocOk Tryd.prog 21 [.ptr 1 0 0] [(1, .cells 9 [.map 2, a0, a1, a2, a3, a4, a5, a6, a7]), (2, .map 76 f)] (wdsR f a0 a1 a2 a3 a4 a5 a6 a7) := by
  intro ρ w hob hr hf hg xs hx
  have hfin : FinM f 1000000 := hob _ (List.mem_cons_self ..)
  obtain ⟨L1, hL1, ho1⟩ := hr.1 1 _ rfl
  obtain ⟨L2, hL2, ho2⟩ := hr.1 2 _ rfl
  obtain ⟨n1, c1, w1, cs, t, fr, hb1, hfr, hlen, hsz, hv⟩ := ho1
  obtain ⟨n2, c2, ks, agg, vk, hks, es, clock, hb2, hbo, hmr⟩ := ho2
  have hk26 : mapKinds Tryd.prog 76 = some ([.int .u8, .int .i64, .int .i64], true, .u64) := by kernel_rfl
  rw [hk26] at hks
  cases hks
  simp only [denL, den, hL1, n1] at hx
  simp at hx
  subst hx
  obtain ⟨x0, hx0, hr0⟩ := hv 0 _ rfl
  have hx0' : x0 = .map (some L2.blk) := by
    rcases hr0 with h | h
    · cases h
    · simp [den, hL2] at h; exact h.symm
  subst hx0'
  have hl1 : L1.blk < w.heap.size := (Array.getElem?_eq_some_iff.1 hb1).1
  have hl2 : L2.blk < w.heap.size := (Array.getElem?_eq_some_iff.1 hb2).1
  have hesz : es.size ≤ 1000000 := by
    obtain ⟨kl, hes, hnd, hkw, hfk⟩ := hmr
    obtain ⟨l, hl, hml⟩ := hfin
    have h1 : es.size = (kl.map (·.1)).length := by
      have := congrArg List.length hes
      simpa using this
    rw [h1]
    refine Nat.le_trans (nodup_len _ l hnd (fun k hk => ?_)) hl
    obtain ⟨x, hx, rfl⟩ := List.mem_map.1 hk
    have hfx := hfk x.1 (hkw x hx)
    cases hfi : kl.find? (fun y => y.1 == x.1) with
    | none =>
      rw [List.find?_eq_none] at hfi
      exact (hfi x hx (by simp)).elim
    | some y => rw [hfi] at hfx; exact hml x.1 y.2 hfx
  have hkey : ∀ e ∈ es.toList, ∃ x, e.key = encA x := by
    obtain ⟨kl, hes, hnd, hkw, hfk⟩ := hmr
    intro e he
    have : (e.key, e.val) ∈ es.toList.map (fun e => (e.key, e.val)) := List.mem_map.2 ⟨e, he, rfl⟩
    rw [hes] at this
    obtain ⟨x, hx, hxe⟩ := List.mem_map.1 this
    obtain ⟨z, hz, _⟩ := encA_key x.1 (hkw x hx)
    refine ⟨z, ?_⟩
    have := congrArg Prod.fst hxe
    simp only at this
    rw [← this, hz]
  have hM : MemAt w.heap.size w L1.blk (L1.base + 0 * L1.wid + 0) L2.blk es clock f := ⟨hl1, by simp [World.cell?, hb1] at hx0 ⊢; exact hx0, hl2, ⟨hb2, hbo, hmr⟩, hkey, hesz⟩
  have hcall := callsIn_wide.1 (Words_in 12 (Nat.le_refl _) L1.blk (L1.base + 0 * L1.wid + 0) L2.blk es clock f w hM)
  simp only [Nat.zero_mul, Nat.add_zero] at hcall
  refine hcall.mono fun en w' ⟨v, ss, hv', hS, hcase, hB⟩ => ?_
  subst hv'
  have hwl : wlF f = emA f (srtA ss) := wlF_eq (wl_of hmr hS)
  rcases hcase with ⟨rfl, hnil⟩ | ⟨gb, cap, cur, rfl, hgs, hne, hgb, hcap, hsz2, htk⟩
  · let l3 : Ev.Loc := ⟨0, 0, 4, 0, true⟩
    refine ⟨_, ρ.set 3 l3, rfl, .inr ?_, step_below (k := 2) hr hf (by unfold gnm; decide) hB l3 _ (fun h => absurd rfl h) ?_⟩
    · simp only [wdsR, hwl, hnil]
      simp [den, Ren.set, l3, Loc.slice, capOr]
    · simp only [hwl, hnil]
      exact ⟨rfl, rfl, Nat.le_refl _, fun _ => rfl, fun h => absurd rfl h⟩
  · let l3 : Ev.Loc := ⟨gb, 0, 4, (wlF f).length, false⟩
    refine ⟨_, ρ.set 3 l3, rfl, .inr ?_, step_below (k := 2) hr hf (by unfold gnm; decide) hB l3 _ (fun _ => hgs) ?_⟩
    · simp [wdsR, den, Ren.set, l3, Loc.slice, capOr, hwl]
    · rw [← hwl] at hcap htk hne
      refine ⟨rfl, rfl, Nat.le_refl _, (fun h => by cases h), fun _ => ⟨cur, 83, (0, 0), hgb, fun _ => Nat.le_refl _, by simp [l3]; omega, fun i hi j k hj => ?_⟩⟩
      obtain ⟨x, hx⟩ : ∃ x, (wlF f)[i]? = some x := ⟨_, List.getElem?_eq_getElem hi⟩
      have hw : wdAt (wlF f) i = ⟨x.1.1, x.1.2.1, x.1.2.2, x.2⟩ := by unfold wdAt; rw [hx]
      have hj4 : j < 4 := by have := (List.getElem?_eq_some_iff.1 hj).1; simpa [wSh] using this
      have h6 : (cur.toList.take ((wlF f).length * 4))[i * 4 + j]? = (flW (wlF f))[i * 4 + j]? := by rw [htk]
      rw [List.getElem?_take_of_lt (by omega), flW_get _ i j x hx hj4, Array.getElem?_toList] at h6
      simp only [l3, Nat.zero_add]
      rcases (show j = 0 ∨ j = 1 ∨ j = 2 ∨ j = 3 by omega) with rfl | rfl | rfl | rfl <;> simp [wSh] at hj <;> subst hj <;>
        exact ⟨⟨_, .inr rfl⟩, _, h6, by simp [cW, wdF, hw, wdR, den]⟩
end
end Go.Proofs.YtmlfmmnnbdlabaaDoor
