/-
  The eras of drafts: what Made returns.
  What the laws over drafts of eras share.
-/
import Derived.Test.YtbdmieelokmhiaaGreatDoorEraMade1
set_option linter.unusedVariables false
set_option linter.unusedSimpArgs false
namespace Go.Proofs.YtbdmieelokmhiaaGreatDoor
open Go.RowKit

structure DraftE where
  off : Int
  sv : Int
  at_ : Int
  kd : Nat
  st : Nat
  fm : Nat
  pt : Nat
  yr : Nat
  mo : Nat
  bs : Nat
  dk : Nat
  dw : Nat
  dd : Nat
def DraftE.cells (d : DraftE) : Array Value := #[.int .i32 d.off, .int .i32 d.sv, .int .i32 d.at_, .int .u8 (d.kd : Int), .int .u8 (d.st : Int), .int .u8 (d.fm : Int), .int .u8 (d.pt : Int), .int .u16 (d.yr : Int), .int .u8 (d.mo : Int), .int .u8 (d.bs : Int), .int .u8 (d.dk : Int), .int .u8 (d.dw : Int), .int .u8 (d.dd : Int)]
structure DraftE.Ok (d : DraftE) : Prop where
  off : -2147483648 ≤ d.off ∧ d.off ≤ 2147483647
  sv : -2147483648 ≤ d.sv ∧ d.sv ≤ 2147483647
  at_ : -2147483648 ≤ d.at_ ∧ d.at_ ≤ 2147483647
  kd : d.kd < 256
  st : d.st < 256
  fm : d.fm < 256
  pt : d.pt < 256
  yr : d.yr < 65536
  mo : d.mo < 256
  bs : d.bs < 256
  dk : d.dk < 256
  dw : d.dw < 256
  dd : d.dd < 256
def DraftE.era (d : DraftE) : EraP := eraM d.off d.sv d.at_ d.kd d.st d.fm d.pt d.yr d.mo d.bs d.dk d.dw d.dd
theorem DraftE.right (d : DraftE) : EraRight d.era := eraM_right _ _ _ _ _ _ _ _ _ _ _ _ _
theorem emade_any (d : DraftE) (h : d.Ok) (w : World) : Calls Tryz.prog 15 #[.agg d.cells] w fun e w' => e = .returned (.agg d.era.cells) ∧ Below w.heap.size w w' := by
  obtain ⟨off, sv, at_, kd, st, fm, pt, yr, mo, bs, dk, dw, dd⟩ := d
  obtain ⟨sF, hF⟩ := asBa (efmtM fm)
  obtain ⟨sS, hS⟩ := asBa (esetM st)
  have H2 := Lib.hid (fun W => made2_any dk dw dd W h.dk h.dw h.dd)
  simp only [dayV] at H2
  have H6 := Lib.hid (fun W => made6_any at_ bs W h.at_ h.bs)
  have hk : kd % 3 = 0 ∨ kd % 3 = 1 ∨ kd % 3 = 2 := by omega
  have hp : pt % 5 = 0 ∨ pt % 5 = 1 ∨ pt % 5 = 2 ∨ pt % 5 = 3 ∨ pt % 5 = 4 := by omega
  have hkI : (kd : Int) % 3 = ((kd % 3 : Nat) : Int) := by omega
  rcases hk with hk | hk | hk <;> rcases hp with hp | hp | hp | hp | hp
  · exact (emade_0_0 off sv at_ kd st fm pt yr mo bs dk dw dd _ _ _ sF sS w h.off h.sv h.kd h.st h.fm h.pt h.yr h.mo hk hp hF hS H2 H6).mono fun e w' ⟨he, hb⟩ => ⟨by rw [he]; simp [DraftE.era, eraM, etilM, EraP.cells, UntilP.none, hk, hp, hF, hS], hb⟩
  · exact (emade_0_1 off sv at_ kd st fm pt yr mo bs dk dw dd _ _ _ sF sS w h.off h.sv h.kd h.st h.fm h.pt h.yr h.mo hk hp hF hS H2 H6).mono fun e w' ⟨he, hb⟩ => ⟨by rw [he]; simp [DraftE.era, eraM, etilM, EraP.cells, UntilP.none, hk, hp, hF, hS], hb⟩
  · exact (emade_0_2 off sv at_ kd st fm pt yr mo bs dk dw dd _ _ _ sF sS w h.off h.sv h.kd h.st h.fm h.pt h.yr h.mo hk hp hF hS H2 H6).mono fun e w' ⟨he, hb⟩ => ⟨by rw [he]; simp [DraftE.era, eraM, etilM, EraP.cells, UntilP.none, hk, hp, hF, hS], hb⟩
  · exact (emade_0_3 off sv at_ kd st fm pt yr mo bs dk dw dd _ _ _ sF sS w h.off h.sv h.kd h.st h.fm h.pt h.yr h.mo hk hp hF hS H2 H6).mono fun e w' ⟨he, hb⟩ => ⟨by rw [he]; simp [DraftE.era, eraM, etilM, EraP.cells, UntilP.none, hk, hp, hF, hS], hb⟩
  · exact (emade_0_4 off sv at_ kd st fm pt yr mo bs dk dw dd _ _ _ sF sS w h.off h.sv h.kd h.st h.fm h.pt h.yr h.mo hk hp hF hS H2 H6).mono fun e w' ⟨he, hb⟩ => ⟨by rw [he]; simp [DraftE.era, eraM, etilM, EraP.cells, UntilP.none, hk, hp, hF, hS], hb⟩
  · exact (emade_1_0 off sv at_ kd st fm pt yr mo bs dk dw dd _ _ _ sF sS w h.off h.sv h.kd h.st h.fm h.pt h.yr h.mo hk hp hF hS H2 H6).mono fun e w' ⟨he, hb⟩ => ⟨by rw [he]; simp [DraftE.era, eraM, etilM, EraP.cells, UntilP.none, hk, hp, hF, hS], hb⟩
  · exact (emade_1_1 off sv at_ kd st fm pt yr mo bs dk dw dd _ _ _ sF sS w h.off h.sv h.kd h.st h.fm h.pt h.yr h.mo hk hp hF hS H2 H6).mono fun e w' ⟨he, hb⟩ => ⟨by rw [he]; simp [DraftE.era, eraM, etilM, EraP.cells, UntilP.none, hk, hp, hF, hS], hb⟩
  · exact (emade_1_2 off sv at_ kd st fm pt yr mo bs dk dw dd _ _ _ sF sS w h.off h.sv h.kd h.st h.fm h.pt h.yr h.mo hk hp hF hS H2 H6).mono fun e w' ⟨he, hb⟩ => ⟨by rw [he]; simp [DraftE.era, eraM, etilM, EraP.cells, UntilP.none, hk, hp, hF, hS], hb⟩
  · exact (emade_1_3 off sv at_ kd st fm pt yr mo bs dk dw dd _ _ _ sF sS w h.off h.sv h.kd h.st h.fm h.pt h.yr h.mo hk hp hF hS H2 H6).mono fun e w' ⟨he, hb⟩ => ⟨by rw [he]; simp [DraftE.era, eraM, etilM, EraP.cells, UntilP.none, hk, hp, hF, hS], hb⟩
  · exact (emade_1_4 off sv at_ kd st fm pt yr mo bs dk dw dd _ _ _ sF sS w h.off h.sv h.kd h.st h.fm h.pt h.yr h.mo hk hp hF hS H2 H6).mono fun e w' ⟨he, hb⟩ => ⟨by rw [he]; simp [DraftE.era, eraM, etilM, EraP.cells, UntilP.none, hk, hp, hF, hS], hb⟩
  · exact (emade_2_0 off sv at_ kd st fm pt yr mo bs dk dw dd _ _ _ sF sS w h.off h.sv h.kd h.st h.fm h.pt h.yr h.mo hk hp hF hS H2 H6).mono fun e w' ⟨he, hb⟩ => ⟨by rw [he]; simp [DraftE.era, eraM, etilM, EraP.cells, UntilP.none, hk, hp, hF, hS], hb⟩
  · exact (emade_2_1 off sv at_ kd st fm pt yr mo bs dk dw dd _ _ _ sF sS w h.off h.sv h.kd h.st h.fm h.pt h.yr h.mo hk hp hF hS H2 H6).mono fun e w' ⟨he, hb⟩ => ⟨by rw [he]; simp [DraftE.era, eraM, etilM, EraP.cells, UntilP.none, hk, hp, hF, hS], hb⟩
  · exact (emade_2_2 off sv at_ kd st fm pt yr mo bs dk dw dd _ _ _ sF sS w h.off h.sv h.kd h.st h.fm h.pt h.yr h.mo hk hp hF hS H2 H6).mono fun e w' ⟨he, hb⟩ => ⟨by rw [he]; simp [DraftE.era, eraM, etilM, EraP.cells, UntilP.none, hk, hp, hF, hS], hb⟩
  · exact (emade_2_3 off sv at_ kd st fm pt yr mo bs dk dw dd _ _ _ sF sS w h.off h.sv h.kd h.st h.fm h.pt h.yr h.mo hk hp hF hS H2 H6).mono fun e w' ⟨he, hb⟩ => ⟨by rw [he]; simp [DraftE.era, eraM, etilM, EraP.cells, UntilP.none, hk, hp, hF, hS], hb⟩
  · exact (emade_2_4 off sv at_ kd st fm pt yr mo bs dk dw dd _ _ _ sF sS w h.off h.sv h.kd h.st h.fm h.pt h.yr h.mo hk hp hF hS H2 H6).mono fun e w' ⟨he, hb⟩ => ⟨by rw [he]; simp [DraftE.era, eraM, etilM, EraP.cells, UntilP.none, hk, hp, hF, hS], hb⟩


def E2Held (w : World) (D E : Array Value) (W : World) : Prop := Blk W w.heap.size 43 D ∧ Blk W (w.heap.size + 1) 43 E ∧ Below w.heap.size w W
theorem infoED (d : DraftE) : (Tryz.prog.info? 43).map (·.size) = some d.cells.size := by
  show _ = some 13
  kernel_rfl
theorem eprint_right (e : EraP) (h : EraRight e) (w : World) (hT : ETabs w) : Calls Tryz.prog 13 #[.agg e.cells] w fun r w' => r = .returned (.tuple #[.string ⟨(eraT e).toArray⟩, .int .i64 0]) ∧ Below w.heap.size w w' := by
  have := eprint_any e w hT (by
    rcases Decidable.em (e.kind = 2) with hk | hk
    · have := set_len (h.set2 hk); omega
    · rw [h.set0 hk]; decide) (by have := (fmt_plain h.fmt).2.2; omega)
  rwa [show eraPrintR e = (eraT e, 0) from if_pos ((eraOk_iff _).2 h)] at this
theorem esplit_back (e : EraP) (h : EraRight e) (w : World) (hT : ETabs w) (hM : MaxL w) : Calls Tryz.prog 16 #[.string ⟨(eraT e).toArray⟩, .string ⟨#[32]⟩] w fun r w' => (∃ g n : Nat, r = .returned (.slice (some ⟨g, 0, none⟩) n n) ∧ Hid (Calls Tryz.prog 11 #[.slice (some ⟨g, 0, none⟩) n n] w' fun e' w2 => e' = .returned (.tuple #[.agg e.cells, .int .i64 0]) ∧ Below w'.heap.size w' w2)) ∧ Below w.heap.size w w' := by
  have hl := eraT_len h
  have hn := (eraFs_len e).2
  have e1 : (⟨(eraT e).toArray⟩ : ByteArray).data.toList = eraT e := by simp
  refine (split_parse ⟨(eraT e).toArray⟩ w hM hT (by show (eraT e).toArray.size ≤ _; simp only [List.size_toArray]; omega) (by rw [e1, (era_split h).1]; omega)).mono fun r w' ⟨⟨g, n, hr, _, _, _, hP⟩, hb⟩ => ⟨⟨g, n, hr, ?_⟩, hb⟩
  rw [e1, eraT_split h, era_back h] at hP
  exact hP
end Go.Proofs.YtbdmieelokmhiaaGreatDoor
