/-
  The sources of drafts: they can be written, and have few parts.
-/
import Derived.Test.YtmcgbjjcpcgcfaaGreatDoorSrcRight
import Derived.Test.YtmcgbjjcpcgcfaaGreatDoorPWork
import Derived.Test.YtmcgbjjcpcgcfaaGreatDoorMade14b
set_option linter.unusedVariables false
set_option linter.unusedSimpArgs false
namespace Go.Proofs.YtmcgbjjcpcgcfaaGreatDoor
open Go.RowKit Go.Shelf

structure Small (s : SourceP) : Prop where
  rules : s.rules.length ≤ 40
  zones : s.zones.length ≤ 40
  links : s.links.length ≤ 40
  shifts : s.shifts.length ≤ 40
  eras : ∀ z ∈ s.zones, z.eras.length ≤ 40
theorem erasM_len (es : List DraftE) (k n j : Nat) : (erasM es k n j).length = j := by simp [erasM]
theorem erasM_at (es : List DraftE) (k n m j : Nat) (e : EraP) (h : (erasM es k n m)[j]? = some e) : j < m ∧ e = (eraAt es (k + j)).era (decide (j + 1 < n)) := by
  have hj : j < m := by have := (List.getElem?_eq_some_iff.1 h).1; rwa [erasM_len] at this
  refine ⟨hj, ?_⟩
  unfold erasM at h
  rw [List.getElem?_map, List.getElem?_range hj] at h
  exact (Option.some.inj h).symm
theorem zoneM_ok (es : List DraftE) (k z : Nat) : zoneOk (zoneM es k z) = true := by
  unfold zoneOk zoneM
  simp only [zname_right, Bool.true_and, Bool.and_eq_true]
  refine ⟨⟨?_, ?_⟩, ?_⟩
  · have h : (erasM es k (1 + z % 4) (1 + z % 4)).length ≠ 0 := by rw [erasM_len]; omega
    cases he : erasM es k (1 + z % 4) (1 + z % 4) with
    | nil => rw [he] at h; exact absurd rfl h
    | cons a l => rfl
  · refine (endsB_iff _).2 fun j e h => ?_
    obtain ⟨hj, rfl⟩ := erasM_at _ _ _ _ _ _ h
    rw [DraftE.is_, erasM_len]
    exact decide_eq_decide.2 ⟨fun _ => by omega, fun _ => by omega⟩
  · refine List.all_eq_true.2 fun e he => ?_
    obtain ⟨j, hj⟩ := List.mem_iff_getElem?.1 he
    obtain ⟨_, rfl⟩ := erasM_at _ _ _ _ _ _ hj
    exact (eraOk_iff _).2 (DraftE.right _ _)
theorem zonesM_mem (es : List DraftE) : ∀ (l : List Nat) (k : Nat) (z : ZoneP), z ∈ zonesM es k l → ∃ j n, z = zoneM es j n
  | [], _, _, h => by cases h
  | y :: l, k, z, h => by
    rcases List.mem_cons.1 h with h | h
    · exact ⟨_, _, h⟩
    · exact zonesM_mem es l _ z h
theorem srcM_right (d : DraftP) : SrcRight (srcM d) :=
  ⟨fun x hx => by
    obtain ⟨y, _, rfl⟩ := List.mem_map.1 hx
    exact (ruleOk_iff _).2 y.right, fun z hz => by
    obtain ⟨j, n, rfl⟩ := zonesM_mem _ _ _ _ hz
    exact zoneM_ok _ _ _, fun x hx => by
    obtain ⟨y, _, rfl⟩ := List.mem_map.1 hx
    unfold linkOk linkM
    rw [zname_right, zname_right]
    rfl, fun x hx => by
    obtain ⟨y, _, rfl⟩ := List.mem_map.1 hx
    exact eset_right y⟩
theorem srcM_small (d : DraftP) : (srcM d).rules.length ≤ 12 ∧ (srcM d).zones.length ≤ 6 ∧ (srcM d).links.length ≤ 6 ∧ (srcM d).shifts.length ≤ 6 ∧ ∀ z ∈ (srcM d).zones, z.eras.length ≤ 4 := by
  refine ⟨?_, ?_, ?_, ?_, fun z hz => ?_⟩
  · simp only [srcM, List.length_map, List.length_take]; omega
  · simp only [srcM, zonesM_len, List.length_take]; omega
  · simp only [srcM, List.length_map, List.length_take]; omega
  · simp only [srcM, List.length_map, List.length_take]; omega
  · obtain ⟨j, n, rfl⟩ := zonesM_mem _ _ _ _ hz
    simp only [zoneM, erasM_len]
    omega
theorem SrcRight.ok {s : SourceP} (h : SrcRight s) : srcOk s = true := by
  unfold srcOk
  rw [List.all_eq_true.2 h.rules, List.all_eq_true.2 h.zones, List.all_eq_true.2 h.links, List.all_eq_true.2 h.shifts]
  rfl
theorem rule_lens {r : RuleP} (h : RuleRight r) : r.name.length ≤ 1048576 ∧ r.lett.length ≤ 1048576 := by
  refine ⟨by have := set_len h.name; omega, ?_⟩
  rcases h.lett with h | h
  · rw [h]; decide
  · have := (ofB_len h).2; omega
theorem era_lens {e : EraP} (h : EraRight e) : EraSz e := by
  refine ⟨?_, ?_⟩
  · by_cases hk : e.kind = 2
    · have := set_len (h.set2 hk); omega
    · rw [h.set0 hk]; decide
  · have := h.fmt
    unfold fmtB at this
    rw [Bool.and_eq_true] at this
    have := of_decide_eq_true this.1
    omega
theorem zone_parts {z : ZoneP} (h : zoneOk z = true) : zoneB z.name = true ∧ z.eras ≠ [] ∧ ∀ e ∈ z.eras, eraOk e = true := by
  unfold zoneOk at h
  simp only [Bool.and_eq_true] at h
  refine ⟨h.1.1.1, fun he => ?_, List.all_eq_true.1 h.2⟩
  have := h.1.1.2
  rw [he] at this
  exact absurd this (by decide)
theorem SrcRight.sz {s : SourceP} (h : SrcRight s) : SrcSz s :=
  ⟨fun r hr => rule_lens ((ruleOk_iff r).1 (h.rules r hr)), fun z hz => ⟨Nat.le_trans (zoneB_len (zone_parts (h.zones z hz)).1) (by decide), fun e he => era_lens ((eraOk_iff e).1 ((zone_parts (h.zones z hz)).2.2 e he))⟩, fun l hl => by
    have := h.links l hl
    unfold linkOk at this
    rw [Bool.and_eq_true] at this
    exact ⟨Nat.le_trans (zoneB_len this.1) (by decide), Nat.le_trans (zoneB_len this.2) (by decide)⟩, fun x hx => Nat.le_trans (set_len (h.shifts x hx)) (by decide)⟩
theorem Small.ln {s : SourceP} (h : Small s) : SrcLn s := ⟨Nat.le_trans h.rules (by decide), Nat.le_trans h.zones (by decide), Nat.le_trans h.links (by decide), Nat.le_trans h.shifts (by decide), fun z hz => Nat.le_trans (h.eras z hz) (by decide)⟩
theorem srcM_Small (d : DraftP) : Small (srcM d) := by
  obtain ⟨h1, h2, h3, h4, h5⟩ := srcM_small d
  exact ⟨by omega, by omega, by omega, by omega, fun z hz => by have := h5 z hz; omega⟩
end Go.Proofs.YtmcgbjjcpcgcfaaGreatDoor
