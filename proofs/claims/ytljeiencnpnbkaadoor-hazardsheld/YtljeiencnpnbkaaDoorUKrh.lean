/-
  slices.SortedFunc(maps.Keys(..), ..) over refs, as a contract.
-/
import Derived.Test.YtljeiencnpnbkaaDoorUKre
import Derived.Test.YtljeiencnpnbkaaDoorEvRefs
import Derived.Test.YtljeiencnpnbkaaDoorEvWords
import Derived.Test.YtljeiencnpnbkaaDoorEvLoc2
set_option linter.unusedSimpArgs false
set_option linter.unusedVariables false
namespace Go.Proofs.YtljeiencnpnbkaaDoor
open Go Go.Proofs Go.Shelf Go.Sort Go.Ev
theorem encR_inj {x y : K2} (h : encA x = encA y) : x = y := by
  simp [encA] at h
  exact Prod.ext h.1 h.2
theorem ltA_ltR (x y : K2) : ltA x y = true ↔ ltR x y := ltA_iff x y
theorem flR_get : ∀ (l : List K2) (k c : Nat) (x : K2), l[k]? = some x → c < 3 → (flA l)[k * 3 + c]? = (cA x)[c]?
  | [], k, c, x, h, _ => by simp at h
  | y :: r, 0, c, x, h, hc => by
    simp at h; subst h
    show (cA y ++ flA r)[0 * 3 + c]? = _
    rw [List.getElem?_append_left (by simp [cA]; omega)]
    simp
  | y :: r, k + 1, c, x, h, hc => by
    have := flR_get r k c x (by simpa using h) hc
    show (cA y ++ flA r)[(k + 1) * 3 + c]? = _
    rw [List.getElem?_append_right (by simp [cA]; omega), ← this]
    congr 1
    simp [cA]; omega
theorem ref_key (k : List Int) (h : keyWf [.int .i64, .int .u32, .bool] k) (h0 : ∀ a b c, k = [a, b, c] → c = 0) : ∃ x : K2, keyVal [.int .i64, .int .u32, .bool] true k = encA x ∧ k = [x.1, x.2, 0] := by
  match k, h with
  | [a, b, c], _ =>
    obtain rfl := h0 a b c rfl
    exact ⟨(a, b), rfl, rfl⟩
  | [], h => exact h.elim
  | [_], h => exact h.elim
  | [_, _], h => exact h.elim
  | _ :: _ :: _ :: _ :: _, h => exact h.2.elim
theorem kl_hit {kl : List (List Int × Int)} {k : List Int} : (kl.find? (fun x => x.1 == k)).map (·.2) ≠ none ↔ k ∈ kl.map (·.1) := by
  constructor
  · intro h
    cases e : kl.find? (fun x => x.1 == k) with
    | none => rw [e] at h; exact absurd rfl h
    | some y =>
      have h1 := List.find?_some e
      have h2 := List.mem_of_find?_eq_some e
      exact List.mem_map.2 ⟨y, h2, by simpa using h1⟩
  · intro h
    obtain ⟨y, hy, he⟩ := List.mem_map.1 h
    cases e : kl.find? (fun x => x.1 == k) with
    | none => rw [List.find?_eq_none] at e; exact absurd (by simpa using he) (e y hy)
    | some y => simp
theorem hl_of {es : Array MapEntry} {f : List Int → Option Int} (hm : MapRep [.int .i64, .int .u32, .bool] true .i64 es.toList f) (h0 : ∀ a b c, f [a, b, c] ≠ none → c = 0) {ss : List K2} (hS : (ss.map encA).Perm (es.toList.map (·.key))) : IsHl f (srtA ss) := by
  obtain ⟨kl, hes, hnd, hkw, hf⟩ := hm
  have hkeys : es.toList.map (·.key) = kl.map (fun x => keyVal [.int .i64, .int .u32, .bool] true x.1) := by
    have := congrArg (List.map Prod.fst) hes
    simpa [List.map_map, Function.comp_def] using this
  have hk : ∀ y ∈ kl, ∃ x : K2, keyVal [.int .i64, .int .u32, .bool] true y.1 = encA x ∧ y.1 = [x.1, x.2, 0] := fun y hy => ref_key y.1 (hkw y hy) (fun a b c e => h0 a b c (by
    rw [← e, hf y.1 (hkw y hy), kl_hit]; exact List.mem_map.2 ⟨y, hy, rfl⟩))
  have hwf : ∀ x : K2, keyWf [.int .i64, .int .u32, .bool] [x.1, x.2, 0] := fun x => by simp [keyWf]
  have hmem : ∀ x : K2, x ∈ ss ↔ [x.1, x.2, 0] ∈ kl.map (·.1) := fun x => by
    have h1 : x ∈ ss ↔ encA x ∈ ss.map encA := by
      rw [List.mem_map]
      exact ⟨fun h => ⟨x, h, rfl⟩, fun ⟨y, hy, e⟩ => by rw [← encR_inj e]; exact hy⟩
    rw [h1, hS.mem_iff, hkeys, List.mem_map, List.mem_map]
    constructor
    · rintro ⟨y, hy, e⟩
      obtain ⟨z, hz, hk⟩ := hk y hy
      rw [hz] at e
      exact ⟨y, hy, by rw [hk, encR_inj e]⟩
    · rintro ⟨y, hy, e⟩
      obtain ⟨z, hz, hk⟩ := hk y hy
      refine ⟨y, hy, ?_⟩
      rw [hz]
      rw [hk] at e
      simp at e
      rw [show z = x from Prod.ext e.1 e.2]
  have hsnd : ss.Nodup := by
    have h1 : (ss.map encA).Nodup := by
      rw [hS.nodup_iff, hkeys]
      refine List.pairwise_map.2 ((List.pairwise_map.1 hnd).imp_of_mem fun {a b} ha hb hne e => hne ?_)
      obtain ⟨x, hx, hkx⟩ := hk a ha
      obtain ⟨y, hy, hky⟩ := hk b hb
      rw [hx, hy] at e
      rw [hkx, hky, encR_inj e]
    exact (List.pairwise_map.1 h1).imp (fun h e => h (by rw [e]))
  refine ⟨?_, fun k => ?_⟩
  · have h1 : (srtA ss).Pairwise (fun a b => (!(ltOf cfA) b a) = true) := List.pairwise_mergeSort (fun a b c h1 h2 => by
        simp only [Bool.not_eq_true'] at h1 h2 ⊢
        exact swoA.ntrans c b a h2 h1) (fun a b => by
        cases h : ltOf cfA b a with
        | false => simp
        | true =>
          cases h2 : ltOf cfA a b with
          | false => simp
          | true =>
            have := (ltA_ltR b a).1 h
            have := (ltA_ltR a b).1 h2
            exact (ltR_irrefl _ (ltR_trans ‹ltR b a› ‹ltR a b›)).elim) ss
    have h2 : (srtA ss).Nodup := (srtA_perm ss).nodup_iff.2 hsnd
    refine (h1.and h2).imp fun {a b} ⟨p, q⟩ => ?_
    have hb : ¬ ltR b a := fun h => by
      have := (ltA_ltR b a).2 h
      unfold ltA at this
      rw [this] at p; cases p
    rcases Classical.em (ltR a b) with h | h
    · exact h
    · exact (q (ltR_total h hb)).elim
  · rw [(srtA_perm ss).mem_iff, hmem, hf _ (hwf k), kl_hit]
noncomputable def srfR (f : List Int → Option Int) : LR := ⟨2, .ss 3 3 0 (hlF f).length none, [(3, .arr 3 rSh false (hlF f).length (rfF (hlF f))), (1, .cells 1 [.map 2]), (2, .map 102 f)], 1, [], [RefM f 1000000]⟩
theorem srf_loc (f : List Int → Option Int) : LocOk Tryd.prog 47 [.func (.func 110) [] [.ptr 1 0 0], .func (.func 50) [] []] [(1, .cells 1 [.map 2]), (2, .map 102 f)] (srfR f) := by
  intro ρ w hob hr hf hg xs hx
  obtain ⟨hfin, hmk⟩ : RefM f 1000000 := hob _ (List.mem_cons_self ..)
  obtain ⟨L1, hL1, ho1⟩ := hr.1 1 _ rfl
  obtain ⟨L2, hL2, ho2⟩ := hr.1 2 _ rfl
  obtain ⟨n1, c1, w1, cs, t, fr, hb1, hfr, hlen, hsz, hv⟩ := ho1
  obtain ⟨n2, c2, ks, agg, vk, hks, es, clock, hb2, hbo, hmr⟩ := ho2
  have hk26 : mapKinds Tryd.prog 102 = some ([.int .i64, .int .u32, .bool], true, .i64) := by kernel_rfl
  rw [hk26] at hks
  cases hks
  simp only [denL, den, hL1, n1] at hx
  simp at hx
  subst hx
  obtain ⟨x0, hx0, hr0⟩ := hv 0 _ rfl
  have hx0' : x0 = .map (some L2.blk) := by
    rcases hr0 with h | h
    · cases h
    · simp [den, hL2] at h; exact h.symm
  subst hx0'
  have hl1 : L1.blk < w.heap.size := (Array.getElem?_eq_some_iff.1 hb1).1
  have hesz : es.size ≤ 1000000 := by
    obtain ⟨kl, hes, hnd, hkw, hfk⟩ := hmr
    obtain ⟨l, hl, hml⟩ := hfin
    have h1 : es.size = (kl.map (·.1)).length := by
      have := congrArg List.length hes
      simpa using this
    rw [h1]
    refine Nat.le_trans (nodup_len _ l hnd (fun k hk => ?_)) hl
    obtain ⟨x, hx, rfl⟩ := List.mem_map.1 hk
    have hfx := hfk x.1 (hkw x hx)
    cases hfi : kl.find? (fun y => y.1 == x.1) with
    | none =>
      rw [List.find?_eq_none] at hfi
      exact (hfi x hx (by simp)).elim
    | some y => rw [hfi] at hfx; exact hml x.1 y.2 hfx
  have hkey : ∀ e ∈ es.toList, ∃ x, e.key = encA x := by
    obtain ⟨kl, hes, hnd, hkw, hfk⟩ := hmr
    intro e he
    have : (e.key, e.val) ∈ es.toList.map (fun e => (e.key, e.val)) := List.mem_map.2 ⟨e, he, rfl⟩
    rw [hes] at this
    obtain ⟨x, hx, hxe⟩ := List.mem_map.1 this
    obtain ⟨z, hz, _⟩ := ref_key x.1 (hkw x hx) (fun a b c e => hmk a b c (by rw [← e, hfk x.1 (hkw x hx), kl_hit]; exact List.mem_map.2 ⟨x, hx, rfl⟩))
    refine ⟨z, ?_⟩
    have := congrArg Prod.fst hxe
    simp only at this
    rw [← this, hz]
  have hcell : w.cell? ⟨L1.blk, L1.base, none⟩ = some (.map (some L2.blk)) := by simp [World.cell?, hb1] at hx0 ⊢; exact hx0
  have hseq := keys_stops Fence.wide (12 - 1 - 1 - 1) trivial rfl (by omega) L1.blk L1.base L2.blk es clock hbo.1 hbo.2 hkey w hl1 hcell hb2
  have hcall := callsIn_wide.1 (sorted_in 12 (by omega) 110 #[.pointer (some ⟨L1.blk, L1.base, none⟩)] (enters_of Tryd.func110 (by kernel_rfl) rfl) _ es.size hesz (fun ss hs => by
    have := hs.length_eq
    simp at this
    omega) w hseq)
  refine hcall.mono fun en w' ⟨v, ss, hv', hS, hrow, hnil, hB⟩ => ?_
  subst hv'
  have hwl : hlF f = srtA ss := hlF_eq (hl_of hmr hmk hS)
  have hl2 : (srtA ss).length = ss.length := (srtA_perm ss).length_eq
  rcases hrow.2 with ⟨rfl, hz⟩ | ⟨gb, cap, cur, rfl, hgs, hgb, r1, r2, r3, r4⟩
  · have hn : ss = [] := hnil.1 rfl
    subst hn
    have hnl : srtA [] = [] := by simp [srtA]
    let l3 : Ev.Loc := ⟨0, 0, 3, 0, true⟩
    refine ⟨_, ρ.set 3 l3, rfl, .inr ?_, step_below (k := 2) hr hf (by unfold gnm; decide) hB l3 _ (fun h => absurd rfl h) ?_⟩
    · simp only [srfR, hwl, hnl]
      simp [den, Ren.set, l3, Loc.slice, capOr]
    · simp only [hwl, hnl]
      exact ⟨rfl, rfl, Nat.le_refl _, fun _ => rfl, fun h => absurd rfl h⟩
  · let l3 : Ev.Loc := ⟨gb, 0, 3, cap, false⟩
    refine ⟨_, ρ.set 3 l3, rfl, .inr ?_, step_below (k := 2) hr hf (by unfold gnm; decide) hB l3 _ (fun _ => hgs) ?_⟩
    · simp [srfR, den, Ren.set, l3, Loc.slice, capOr, hwl, hl2]
      omega
    · rw [← hwl] at r4 hl2
      refine ⟨rfl, rfl, by show (hlF f).length ≤ cap; omega, (fun h => by cases h), fun _ => ⟨cur, _, (0, 0), hgb, fun _ => Nat.le_refl _, by simp [l3]; omega, fun i hi j k hj => ?_⟩⟩
      obtain ⟨x, hx⟩ : ∃ x, (hlF f)[i]? = some x := ⟨_, List.getElem?_eq_getElem hi⟩
      have hj3 : j < 3 := by have := (List.getElem?_eq_some_iff.1 hj).1; simpa [rSh] using this
      have h6 : (cur.toList.take (ss.length * 3))[i * 3 + j]? = (flA (hlF f))[i * 3 + j]? := by rw [r4]
      rw [List.getElem?_take_of_lt (by omega), flR_get _ i j x hx hj3, Array.getElem?_toList] at h6
      simp only [l3, Nat.zero_add]
      rcases (show j = 0 ∨ j = 1 ∨ j = 2 by omega) with rfl | rfl | rfl <;> simp [rSh] at hj <;> subst hj
      · exact ⟨⟨x.1, .inr (by simp [rfF, hx])⟩, _, h6, by simp [cA, rfF, hx, den]⟩
      · exact ⟨⟨x.2, .inr (by simp [rfF, hx])⟩, _, h6, by simp [cA, rfF, hx, den]⟩
      · exact ⟨⟨false, .inr (by simp [rfF, hx])⟩, _, h6, by simp [cA, rfF, hx, den]⟩
end Go.Proofs.YtljeiencnpnbkaaDoor
