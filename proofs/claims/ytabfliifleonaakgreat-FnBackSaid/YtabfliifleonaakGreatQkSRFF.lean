/-
Pure functions and what the code of them does, by program; without conditions.
-/
import Derived.Test.YtabfliifleonaakGreatQkS7
namespace Go.Proofs.YtabfliifleonaakGreat
open Go Go.Lv Go.Lv.P Go.Proofs
set_option linter.unusedVariables false
set_option linter.unusedSimpArgs false
set_option maxRecDepth 100000
noncomputable def k110_tabFF (F : Nat) : Tab := [(4, (k128_ent F)), (5, (k24_ent F)), (6, (k34_ent F)), (7, (k43_ent F)), (8, (k49_entF F)), (9, (k51_ent F)), (10, (k71_ent F)), (11, (k72_ent F)), (12, (k122_ent F)), (13, (k129_ent F)), (14, (k108_ent F)), (15, (k112_ent F)), (16, (k81_ent F)), (17, (k91_ent F)), (18, (k44_ent F)), (19, (k76_ent F)), (20, (k89_ent F)), (21, (k111_ent F)), (22, (k45_ent F)), (23, (k77_entF F)), (24, (k90_ent F)), (25, (k58_ent F)), (26, (k80_ent F)), (27, (k70_ent F))]
theorem k110_tabokFF (F : Nat) : TabOK Tryz.prog (k110_tabFF F) := (u001 (k128_meets F) k128_fok (u001 (k24_meets F) k24_fok (u001 (k34_meets F) k34_fok (u001 (k43_meets F) k43_fok (u001 (k49_meetsF F) k49_fok (u001 (k51_meets F) k51_fok (u001 (k71_meets F) k71_fok (u001 (k72_meets F) k72_fok (u001 (k122_meets F) k122_fok (u001 (k129_meets F) k129_fok (u001 (k108_meets F) k108_fok (u001 (k112_meets F) k112_fok (u001 (k81_meets F) k81_fok (u001 (k91_meets F) k91_fok (u001 (k44_meets F) k44_fok (u001 (k76_meets F) k76_fok (u001 (k89_meets F) k89_fok (u001 (k111_meets F) k111_fok (u001 (k45_meets F) k45_fok (u001 (k77_meetsF F) k77_fok (u001 (k90_meets F) k90_fok (u001 (k58_meets F) k58_fok (u001 (k80_meets F) k80_fok (u001 (k70_meets F) k70_fok u015))))))))))))))))))))))))
theorem k110_runFF (F : Nat) (j2 : List Int) : runS tt (k110_tabFF F) (k110_LS2 F) [] [] Tryz.f3 (u000 Tryz.f3) 70 [(.ri .u8 j2)] [] = k85_c _ F j2 (fun r => some ⟨(.bool r), [], []⟩) := by kernel_rfl
def k110_entFF (F : Nat) : Ent := ⟨[], .quiet, fun args mem => match args, mem with
  | [(.ri .u8 j2)], [] => some ((k85_p F j2).isSome, ⟨(.bool ((k85_p F j2).getD default)), [], []⟩)
  | _, _ => none⟩
theorem k110_meetsFF (F : Nat) : Meets Tryz.prog 3 (k110_entFF F) := by
  refine u002 mixed ttok deep (k110_tabokFF F) Tryz.func3 (u009 rfl) (k110_lsok2 F) fun args mem hfit ret h => ?_
  clear hfit
  simp only [k110_entFF] at h
  split at h
  · rename_i j2
    simp only [Option.some.injEq, Prod.mk.injEq] at h
    obtain ⟨hc, rfl⟩ := h
    exact ⟨[], [], 70, _, (k110_runFF F j2).trans ((k85_cp _ F j2 _).trans (u014 hc _)), rfl, rfl, rfl⟩
  · cases h
end Go.Proofs.YtabfliifleonaakGreat
