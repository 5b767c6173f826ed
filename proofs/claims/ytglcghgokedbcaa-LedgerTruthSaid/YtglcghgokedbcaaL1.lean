/- The types of the program, as the evaluator sees them. Small functions. within, isSpan; the reference's Valid. Sales and chips. Comparisons of lists. The reference's Parts. Books; the program's Check. open; accounts; what is left. Accounts; what is left. Missing; days; Low. days; Low. Buy. truths. -/
import Derived.Test.YtglcghgokedbcaaA5
import Derived.Test.YtglcghgokedbcaaProg
import Derived.KernelRfl
set_option linter.unusedSimpArgs false
set_option linter.unusedVariables false

section
set_option maxRecDepth 100000
namespace Go.Aw
open Go

def tlook : List (Nat × Ty) → Nat → Ty
  | [], _ => .no
  | (k, x) :: r, t => if k = t then x else tlook r t

def tgood (P : Program) : List (Nat × Ty) → Prop
  | [] => True
  | (k, x) :: r => x = tyOf P k ∧ tgood P r

theorem tlook_ok {P : Program} : ∀ (l : List (Nat × Ty)), tgood P l → TOK P (tlook l)
  | [], _, _ => trivial
  | (k, x) :: r, h, t => by
    simp only [tlook]
    split
    · rename_i e; subst e; rw [h.1]; exact tok P _
    · exact tlook_ok r h.2 t

def ttab : List (Nat × Ty) := [
  (1, Ty.sc D.nilf),
  (2, Ty.sc (D.int IntKind.i64 0)),
  (3, Ty.sc (D.int IntKind.i64 0)),
  (4, Ty.sc (D.bool false)),
  (5, Ty.sc (D.int IntKind.u8 0)),
  (6, Ty.sc (D.int IntKind.u8 0)),
  (7, Ty.st 4 [(0, 1, 2), (1, 1, 3), (2, 1, 4), (3, 1, 6)] [D.int IntKind.i64 0, D.int IntKind.i64 0, D.bool false, D.int IntKind.u8 0] true),
  (8, Ty.st 4 [(0, 1, 2), (1, 1, 3), (2, 1, 4), (3, 1, 6)] [D.int IntKind.i64 0, D.int IntKind.i64 0, D.bool false, D.int IntKind.u8 0] true),
  (9, Ty.sc (D.str ⟨#[]⟩)),
  (10, Ty.sc (D.str ⟨#[]⟩)),
  (11, Ty.sc (D.str ⟨#[]⟩)),
  (12, Ty.sc (D.int IntKind.u64 0)),
  (13, Ty.st 2 [(0, 1, 9), (1, 1, 12)] [D.str ⟨#[]⟩, D.int IntKind.u64 0] false),
  (14, Ty.st 2 [(0, 1, 9), (1, 1, 12)] [D.str ⟨#[]⟩, D.int IntKind.u64 0] false),
  (15, Ty.sc D.nilp),
  (16, Ty.sc D.nilp),
  (17, Ty.sc D.nilp),
  (18, Ty.st 1 [(0, 1, 17)] [D.nilp] false),
  (19, Ty.st 1 [(0, 1, 17)] [D.nilp] false),
  (21, Ty.sc (D.int IntKind.i32 0)),
  (22, Ty.sl 1 (D.int IntKind.i64 0)),
  (23, Ty.sl 3 (D.agg [D.int IntKind.i64 0, D.int IntKind.i64 0, D.int IntKind.i64 0])),
  (24, Ty.sl 1 (D.agg [D.sl []])),
  (25, Ty.sl 3 (D.agg [D.int IntKind.i64 0, D.int IntKind.i64 0, D.int IntKind.i64 0])),
  (26, Ty.st 4 [(0, 1, 22), (1, 1, 23), (2, 1, 24), (3, 1, 25)] [D.sl [], D.sl [], D.sl [], D.sl []] false),
  (27, Ty.st 4 [(0, 1, 22), (1, 1, 23), (2, 1, 24), (3, 1, 25)] [D.sl [], D.sl [], D.sl [], D.sl []] false),
  (28, Ty.sl 2 (D.agg [D.int IntKind.i64 0, D.int IntKind.i64 0])),
  (29, Ty.sc D.nilf),
  (30, Ty.sc D.nilf),
  (31, Ty.sc D.nilf),
  (32, Ty.sc (D.int IntKind.i64 0)),
  (33, Ty.sc D.nilf),
  (35, Ty.sc D.nilf),
  (36, Ty.sc D.nilf),
  (37, Ty.sc D.nilf),
  (38, Ty.sc D.nilf),
  (39, Ty.st 2 [(0, 1, 3), (1, 1, 3)] [D.int IntKind.i64 0, D.int IntKind.i64 0] true),
  (40, Ty.st 2 [(0, 1, 3), (1, 1, 3)] [D.int IntKind.i64 0, D.int IntKind.i64 0] true),
  (41, Ty.sc D.nilf),
  (42, Ty.sc D.nilf),
  (43, Ty.sc D.nilf),
  (45, Ty.sc D.nilf),
  (46, Ty.sl 1 (D.sl [])),
  (48, Ty.sc D.nilf),
  (49, Ty.sc D.nilf),
  (50, Ty.sc D.nilf),
  (51, Ty.sc D.nilf),
  (53, Ty.sc D.nilf),
  (54, Ty.sc D.nilf),
  (55, Ty.sl 3 (D.agg [D.int IntKind.i64 0, D.int IntKind.i64 0, D.int IntKind.i64 0])),
  (57, Ty.sc D.nilf),
  (58, Ty.sc D.nilf),
  (59, Ty.sc D.nilf),
  (61, Ty.sc D.nilf),
  (62, Ty.sl 3 (D.agg [D.int IntKind.i64 0, D.int IntKind.i64 0, D.int IntKind.i64 0])),
  (64, Ty.sc D.nilf),
  (65, Ty.sc D.nilf),
  (67, Ty.sc D.nilf),
  (68, Ty.sc D.nilf),
  (69, Ty.sc D.nilf),
  (70, Ty.sc D.nilf),
  (71, Ty.sc D.nilf),
  (72, Ty.sc D.nilf),
  (73, Ty.sc D.nilf),
  (74, Ty.sc D.nilf),
  (75, Ty.sc D.nilf),
  (76, Ty.sl 3 (D.agg [D.int IntKind.i64 0, D.int IntKind.i64 0, D.int IntKind.i64 0])),
  (78, Ty.sc D.nilf),
  (79, Ty.st 3 [(0, 2, 40), (2, 1, 3)] [D.int IntKind.i64 0, D.int IntKind.i64 0, D.int IntKind.i64 0] true),
  (80, Ty.st 3 [(0, 2, 40), (2, 1, 3)] [D.int IntKind.i64 0, D.int IntKind.i64 0, D.int IntKind.i64 0] true),
  (81, Ty.sc D.nilf),
  (82, Ty.sc D.nilf),
  (83, Ty.sc D.nilf),
  (84, Ty.ar 2 1 5 [D.int IntKind.u8 0, D.int IntKind.u8 0] false),
  (85, Ty.sl 3 (D.agg [D.int IntKind.u8 0, D.int IntKind.u8 0, D.int IntKind.u8 0])),
  (86, Ty.ar 2 2 84 [D.int IntKind.u8 0, D.int IntKind.u8 0, D.int IntKind.u8 0, D.int IntKind.u8 0] false),
  (87, Ty.ar 2 4 86 [D.int IntKind.u8 0, D.int IntKind.u8 0, D.int IntKind.u8 0, D.int IntKind.u8 0, D.int IntKind.u8 0, D.int IntKind.u8 0, D.int IntKind.u8 0, D.int IntKind.u8 0] false),
  (88, Ty.st 12 [(0, 2, 84), (2, 1, 85), (3, 8, 87), (11, 1, 85)] [D.int IntKind.u8 0, D.int IntKind.u8 0, D.sl [], D.int IntKind.u8 0, D.int IntKind.u8 0, D.int IntKind.u8 0, D.int IntKind.u8 0, D.int IntKind.u8 0, D.int IntKind.u8 0, D.int IntKind.u8 0, D.int IntKind.u8 0, D.sl []] false),
  (89, Ty.st 12 [(0, 2, 84), (2, 1, 85), (3, 8, 87), (11, 1, 85)] [D.int IntKind.u8 0, D.int IntKind.u8 0, D.sl [], D.int IntKind.u8 0, D.int IntKind.u8 0, D.int IntKind.u8 0, D.int IntKind.u8 0, D.int IntKind.u8 0, D.int IntKind.u8 0, D.int IntKind.u8 0, D.int IntKind.u8 0, D.sl []] false),
  (90, Ty.ar 2 1 3 [D.int IntKind.i64 0, D.int IntKind.i64 0] false),
  (91, Ty.ar 2 2 90 [D.int IntKind.i64 0, D.int IntKind.i64 0, D.int IntKind.i64 0, D.int IntKind.i64 0] false),
  (93, Ty.sc D.nilf),
  (94, Ty.sc D.nilf),
  (95, Ty.sc D.nilf),
  (96, Ty.sc D.nilf),
  (97, Ty.sc D.nilf),
  (98, Ty.sc D.nilf),
  (99, Ty.st 1 [(0, 1, 28)] [D.sl []] false),
  (100, Ty.st 1 [(0, 1, 28)] [D.sl []] false),
  (101, Ty.sc D.nilf),
  (102, Ty.st 3 [(0, 1, 3), (1, 1, 3), (2, 1, 3)] [D.int IntKind.i64 0, D.int IntKind.i64 0, D.int IntKind.i64 0] true),
  (103, Ty.st 3 [(0, 1, 3), (1, 1, 3), (2, 1, 3)] [D.int IntKind.i64 0, D.int IntKind.i64 0, D.int IntKind.i64 0] true),
  (104, Ty.st 3 [(0, 1, 3), (1, 2, 40)] [D.int IntKind.i64 0, D.int IntKind.i64 0, D.int IntKind.i64 0] true),
  (105, Ty.st 3 [(0, 1, 3), (1, 2, 40)] [D.int IntKind.i64 0, D.int IntKind.i64 0, D.int IntKind.i64 0] true),
  (106, Ty.sc D.nilf),
  (107, Ty.st 3 [(0, 1, 3), (1, 1, 3), (2, 1, 3)] [D.int IntKind.i64 0, D.int IntKind.i64 0, D.int IntKind.i64 0] true),
  (108, Ty.st 3 [(0, 1, 3), (1, 1, 3), (2, 1, 3)] [D.int IntKind.i64 0, D.int IntKind.i64 0, D.int IntKind.i64 0] true),
  (109, Ty.sc D.nilf),
  (110, Ty.sc (D.int IntKind.u16 0)),
  (111, Ty.sl 1 (D.int IntKind.u8 0)),
  (112, Ty.sl 4 (D.agg [D.int IntKind.u8 0, D.int IntKind.u8 0, D.int IntKind.u8 0, D.int IntKind.u8 0])),
  (113, Ty.ar 4 1 5 [D.int IntKind.u8 0, D.int IntKind.u8 0, D.int IntKind.u8 0, D.int IntKind.u8 0] false),
  (114, Ty.sc D.nilf),
  (115, Ty.sc D.nilf),
  (116, Ty.sc D.nilf),
  (117, Ty.sc D.nilf),
  (118, Ty.sc D.nilf),
  (119, Ty.sc D.nilf),
  (120, Ty.sc D.nilf),
  (121, Ty.sc D.nilf),
  (122, Ty.st 3 [(0, 1, 3), (1, 1, 3), (2, 1, 3)] [D.int IntKind.i64 0, D.int IntKind.i64 0, D.int IntKind.i64 0] true),
  (123, Ty.st 3 [(0, 1, 3), (1, 1, 3), (2, 1, 3)] [D.int IntKind.i64 0, D.int IntKind.i64 0, D.int IntKind.i64 0] true),
  (124, Ty.sc D.nilf),
  (125, Ty.sc D.nilf),
  (126, Ty.sc D.nilf),
  (127, Ty.sc D.nilf),
  (128, Ty.st 4 [(0, 4, 27)] [D.sl [], D.sl [], D.sl [], D.sl []] false),
  (129, Ty.st 4 [(0, 4, 27)] [D.sl [], D.sl [], D.sl [], D.sl []] false),
  (131, Ty.sc D.nilf),
  (132, Ty.ar 3 1 3 [D.int IntKind.i64 0, D.int IntKind.i64 0, D.int IntKind.i64 0] false),
  (133, Ty.ar 3 1 3 [D.int IntKind.i64 0, D.int IntKind.i64 0, D.int IntKind.i64 0] false),
  (134, Ty.ar 3 2 40 [D.int IntKind.i64 0, D.int IntKind.i64 0, D.int IntKind.i64 0, D.int IntKind.i64 0, D.int IntKind.i64 0, D.int IntKind.i64 0] false),
  (135, Ty.st 11 [(0, 1, 3), (1, 3, 133), (4, 6, 134), (10, 1, 3)] [D.int IntKind.i64 0, D.int IntKind.i64 0, D.int IntKind.i64 0, D.int IntKind.i64 0, D.int IntKind.i64 0, D.int IntKind.i64 0, D.int IntKind.i64 0, D.int IntKind.i64 0, D.int IntKind.i64 0, D.int IntKind.i64 0, D.int IntKind.i64 0] false),
  (136, Ty.st 11 [(0, 1, 3), (1, 3, 133), (4, 6, 134), (10, 1, 3)] [D.int IntKind.i64 0, D.int IntKind.i64 0, D.int IntKind.i64 0, D.int IntKind.i64 0, D.int IntKind.i64 0, D.int IntKind.i64 0, D.int IntKind.i64 0, D.int IntKind.i64 0, D.int IntKind.i64 0, D.int IntKind.i64 0, D.int IntKind.i64 0] false),
  (137, Ty.sc D.nilf),
  (138, Ty.sc D.nilf),
  (139, Ty.sc D.nilf),
  (140, Ty.sl 1 (D.sl [])),
  (141, Ty.sc D.nilf),
  (142, Ty.sc D.nilf),
  (143, Ty.sc D.nilf),
  (145, Ty.sc D.nilf),
  (147, Ty.sc D.nilf),
  (149, Ty.sc D.nilf),
  (150, Ty.sc D.nilf),
  (151, Ty.sc D.nilf),
  (152, Ty.sc D.nilf),
  (153, Ty.sc D.nilf),
  (154, Ty.sc D.nilf),
  (155, Ty.sc D.nilf),
  (156, Ty.sc D.nilf),
  (157, Ty.ar 3 1 5 [D.int IntKind.u8 0, D.int IntKind.u8 0, D.int IntKind.u8 0] false),
  (158, Ty.sc D.nilf),
  (159, Ty.sc D.nilf),
  (160, Ty.sc D.nilf),
  (161, Ty.sc D.nilf),
  (162, Ty.sc D.nilf),
  (163, Ty.sc D.nilf),
  (164, Ty.sc D.nilf),
  (165, Ty.sc D.nilf),
  (166, Ty.sc D.nilf),
  (167, Ty.sc D.nilf),
  (168, Ty.sc D.nilf),
  (169, Ty.sc D.nilf),
  (170, Ty.sc D.nilf),
  (171, Ty.sc D.nilf),
  (172, Ty.sc D.nilf),
  (173, Ty.sc (D.int IntKind.u64 0)),
  (174, Ty.sc D.nilf),
  (175, Ty.st 4 [(0, 1, 17), (1, 1, 17), (2, 1, 17), (3, 1, 9)] [D.nilp, D.nilp, D.nilp, D.str ⟨#[]⟩] false),
  (176, Ty.st 4 [(0, 1, 17), (1, 1, 17), (2, 1, 17), (3, 1, 9)] [D.nilp, D.nilp, D.nilp, D.str ⟨#[]⟩] false),
  (177, Ty.ar 0 1 16 [] false),
  (180, Ty.sc D.nilf),
  (181, Ty.sc (D.int IntKind.u32 0)),
  (182, Ty.sc (D.int IntKind.u8 0)),
  (183, Ty.sc (D.int IntKind.u8 0)),
  (184, Ty.sc D.nilf),
  (185, Ty.sc D.nilp),
  (186, Ty.sc (D.int IntKind.i32 0)),
  (187, Ty.sc (D.int IntKind.i32 0)),
  (188, Ty.st 11 [(0, 1, 12), (1, 1, 12), (2, 1, 181), (3, 1, 182), (4, 1, 5), (5, 1, 5), (6, 1, 183), (7, 1, 184), (8, 1, 185), (9, 1, 186), (10, 1, 187)] [D.int IntKind.u64 0, D.int IntKind.u64 0, D.int IntKind.u32 0, D.int IntKind.u8 0, D.int IntKind.u8 0, D.int IntKind.u8 0, D.int IntKind.u8 0, D.nilf, D.nilp, D.int IntKind.i32 0, D.int IntKind.i32 0] false),
  (189, Ty.st 11 [(0, 1, 12), (1, 1, 12), (2, 1, 181), (3, 1, 182), (4, 1, 5), (5, 1, 5), (6, 1, 183), (7, 1, 184), (8, 1, 185), (9, 1, 186), (10, 1, 187)] [D.int IntKind.u64 0, D.int IntKind.u64 0, D.int IntKind.u32 0, D.int IntKind.u8 0, D.int IntKind.u8 0, D.int IntKind.u8 0, D.int IntKind.u8 0, D.nilf, D.nilp, D.int IntKind.i32 0, D.int IntKind.i32 0] false)]

def Tt : Nat → Ty := tlook ttab

theorem tt_ok : TOK Go.Proofs.Try.prog Tt :=
  tlook_ok ttab ⟨by kernel_rfl, by kernel_rfl, by kernel_rfl, by kernel_rfl, by kernel_rfl, by kernel_rfl, by kernel_rfl, by kernel_rfl, by kernel_rfl, by kernel_rfl, by kernel_rfl, by kernel_rfl, by kernel_rfl, by kernel_rfl, by kernel_rfl, by kernel_rfl, by kernel_rfl, by kernel_rfl, by kernel_rfl, by kernel_rfl, by kernel_rfl, by kernel_rfl, by kernel_rfl, by kernel_rfl, by kernel_rfl, by kernel_rfl, by kernel_rfl, by kernel_rfl, by kernel_rfl, by kernel_rfl, by kernel_rfl, by kernel_rfl, by kernel_rfl, by kernel_rfl, by kernel_rfl, by kernel_rfl, by kernel_rfl, by kernel_rfl, by kernel_rfl, by kernel_rfl, by kernel_rfl, by kernel_rfl, by kernel_rfl, by kernel_rfl, by kernel_rfl, by kernel_rfl, by kernel_rfl, by kernel_rfl, by kernel_rfl, by kernel_rfl, by kernel_rfl, by kernel_rfl, by kernel_rfl, by kernel_rfl, by kernel_rfl, by kernel_rfl, by kernel_rfl, by kernel_rfl, by kernel_rfl, by kernel_rfl, by kernel_rfl, by kernel_rfl, by kernel_rfl, by kernel_rfl, by kernel_rfl, by kernel_rfl, by kernel_rfl, by kernel_rfl, by kernel_rfl, by kernel_rfl, by kernel_rfl, by kernel_rfl, by kernel_rfl, by kernel_rfl, by kernel_rfl, by kernel_rfl, by kernel_rfl, by kernel_rfl, by kernel_rfl, by kernel_rfl, by kernel_rfl, by kernel_rfl, by kernel_rfl, by kernel_rfl, by kernel_rfl, by kernel_rfl, by kernel_rfl, by kernel_rfl, by kernel_rfl, by kernel_rfl, by kernel_rfl, by kernel_rfl, by kernel_rfl, by kernel_rfl, by kernel_rfl, by kernel_rfl, by kernel_rfl, by kernel_rfl, by kernel_rfl, by kernel_rfl, by kernel_rfl, by kernel_rfl, by kernel_rfl, by kernel_rfl, by kernel_rfl, by kernel_rfl, by kernel_rfl, by kernel_rfl, by kernel_rfl, by kernel_rfl, by kernel_rfl, by kernel_rfl, by kernel_rfl, by kernel_rfl, by kernel_rfl, by kernel_rfl, by kernel_rfl, by kernel_rfl, by kernel_rfl, by kernel_rfl, by kernel_rfl, by kernel_rfl, by kernel_rfl, by kernel_rfl, by kernel_rfl, by kernel_rfl, by kernel_rfl, by kernel_rfl, by kernel_rfl, by kernel_rfl, by kernel_rfl, by kernel_rfl, by kernel_rfl, by kernel_rfl, by kernel_rfl, by kernel_rfl, by kernel_rfl, by kernel_rfl, by kernel_rfl, by kernel_rfl, by kernel_rfl, by kernel_rfl, by kernel_rfl, by kernel_rfl, by kernel_rfl, by kernel_rfl, by kernel_rfl, by kernel_rfl, by kernel_rfl, by kernel_rfl, by kernel_rfl, by kernel_rfl, by kernel_rfl, by kernel_rfl, by kernel_rfl, by kernel_rfl, by kernel_rfl, by kernel_rfl, by kernel_rfl, by kernel_rfl, by kernel_rfl, by kernel_rfl, by kernel_rfl, by kernel_rfl, by kernel_rfl, by kernel_rfl, by kernel_rfl, by kernel_rfl, by kernel_rfl, by kernel_rfl, by kernel_rfl, by kernel_rfl, trivial⟩

@[go_sem] theorem tt_1 : Tt 1 = Ty.sc D.nilf := (Eq.refl _).trans rfl
@[go_sem] theorem tt_2 : Tt 2 = Ty.sc (D.int IntKind.i64 0) := (Eq.refl _).trans rfl
@[go_sem] theorem tt_3 : Tt 3 = Ty.sc (D.int IntKind.i64 0) := (Eq.refl _).trans rfl
@[go_sem] theorem tt_4 : Tt 4 = Ty.sc (D.bool false) := (Eq.refl _).trans rfl
@[go_sem] theorem tt_5 : Tt 5 = Ty.sc (D.int IntKind.u8 0) := (Eq.refl _).trans rfl
@[go_sem] theorem tt_6 : Tt 6 = Ty.sc (D.int IntKind.u8 0) := (Eq.refl _).trans rfl
@[go_sem] theorem tt_7 : Tt 7 = Ty.st 4 [(0, 1, 2), (1, 1, 3), (2, 1, 4), (3, 1, 6)] [D.int IntKind.i64 0, D.int IntKind.i64 0, D.bool false, D.int IntKind.u8 0] true := (Eq.refl _).trans rfl
@[go_sem] theorem tt_8 : Tt 8 = Ty.st 4 [(0, 1, 2), (1, 1, 3), (2, 1, 4), (3, 1, 6)] [D.int IntKind.i64 0, D.int IntKind.i64 0, D.bool false, D.int IntKind.u8 0] true := (Eq.refl _).trans rfl
@[go_sem] theorem tt_9 : Tt 9 = Ty.sc (D.str ⟨#[]⟩) := (Eq.refl _).trans rfl
@[go_sem] theorem tt_10 : Tt 10 = Ty.sc (D.str ⟨#[]⟩) := (Eq.refl _).trans rfl
@[go_sem] theorem tt_11 : Tt 11 = Ty.sc (D.str ⟨#[]⟩) := (Eq.refl _).trans rfl
@[go_sem] theorem tt_12 : Tt 12 = Ty.sc (D.int IntKind.u64 0) := (Eq.refl _).trans rfl
@[go_sem] theorem tt_13 : Tt 13 = Ty.st 2 [(0, 1, 9), (1, 1, 12)] [D.str ⟨#[]⟩, D.int IntKind.u64 0] false := (Eq.refl _).trans rfl
@[go_sem] theorem tt_14 : Tt 14 = Ty.st 2 [(0, 1, 9), (1, 1, 12)] [D.str ⟨#[]⟩, D.int IntKind.u64 0] false := (Eq.refl _).trans rfl
@[go_sem] theorem tt_15 : Tt 15 = Ty.sc D.nilp := (Eq.refl _).trans rfl
@[go_sem] theorem tt_16 : Tt 16 = Ty.sc D.nilp := (Eq.refl _).trans rfl
@[go_sem] theorem tt_17 : Tt 17 = Ty.sc D.nilp := (Eq.refl _).trans rfl
@[go_sem] theorem tt_18 : Tt 18 = Ty.st 1 [(0, 1, 17)] [D.nilp] false := (Eq.refl _).trans rfl
@[go_sem] theorem tt_19 : Tt 19 = Ty.st 1 [(0, 1, 17)] [D.nilp] false := (Eq.refl _).trans rfl
@[go_sem] theorem tt_21 : Tt 21 = Ty.sc (D.int IntKind.i32 0) := (Eq.refl _).trans rfl
@[go_sem] theorem tt_22 : Tt 22 = Ty.sl 1 (D.int IntKind.i64 0) := (Eq.refl _).trans rfl
@[go_sem] theorem tt_23 : Tt 23 = Ty.sl 3 (D.agg [D.int IntKind.i64 0, D.int IntKind.i64 0, D.int IntKind.i64 0]) := (Eq.refl _).trans rfl
@[go_sem] theorem tt_24 : Tt 24 = Ty.sl 1 (D.agg [D.sl []]) := (Eq.refl _).trans rfl
@[go_sem] theorem tt_25 : Tt 25 = Ty.sl 3 (D.agg [D.int IntKind.i64 0, D.int IntKind.i64 0, D.int IntKind.i64 0]) := (Eq.refl _).trans rfl
@[go_sem] theorem tt_26 : Tt 26 = Ty.st 4 [(0, 1, 22), (1, 1, 23), (2, 1, 24), (3, 1, 25)] [D.sl [], D.sl [], D.sl [], D.sl []] false := (Eq.refl _).trans rfl
@[go_sem] theorem tt_27 : Tt 27 = Ty.st 4 [(0, 1, 22), (1, 1, 23), (2, 1, 24), (3, 1, 25)] [D.sl [], D.sl [], D.sl [], D.sl []] false := (Eq.refl _).trans rfl
@[go_sem] theorem tt_28 : Tt 28 = Ty.sl 2 (D.agg [D.int IntKind.i64 0, D.int IntKind.i64 0]) := (Eq.refl _).trans rfl
@[go_sem] theorem tt_29 : Tt 29 = Ty.sc D.nilf := (Eq.refl _).trans rfl
@[go_sem] theorem tt_30 : Tt 30 = Ty.sc D.nilf := (Eq.refl _).trans rfl
@[go_sem] theorem tt_31 : Tt 31 = Ty.sc D.nilf := (Eq.refl _).trans rfl
@[go_sem] theorem tt_32 : Tt 32 = Ty.sc (D.int IntKind.i64 0) := (Eq.refl _).trans rfl
@[go_sem] theorem tt_33 : Tt 33 = Ty.sc D.nilf := (Eq.refl _).trans rfl
@[go_sem] theorem tt_35 : Tt 35 = Ty.sc D.nilf := (Eq.refl _).trans rfl
@[go_sem] theorem tt_36 : Tt 36 = Ty.sc D.nilf := (Eq.refl _).trans rfl
@[go_sem] theorem tt_37 : Tt 37 = Ty.sc D.nilf := (Eq.refl _).trans rfl
@[go_sem] theorem tt_38 : Tt 38 = Ty.sc D.nilf := (Eq.refl _).trans rfl
@[go_sem] theorem tt_39 : Tt 39 = Ty.st 2 [(0, 1, 3), (1, 1, 3)] [D.int IntKind.i64 0, D.int IntKind.i64 0] true := (Eq.refl _).trans rfl
@[go_sem] theorem tt_40 : Tt 40 = Ty.st 2 [(0, 1, 3), (1, 1, 3)] [D.int IntKind.i64 0, D.int IntKind.i64 0] true := (Eq.refl _).trans rfl
@[go_sem] theorem tt_41 : Tt 41 = Ty.sc D.nilf := (Eq.refl _).trans rfl
@[go_sem] theorem tt_42 : Tt 42 = Ty.sc D.nilf := (Eq.refl _).trans rfl
@[go_sem] theorem tt_43 : Tt 43 = Ty.sc D.nilf := (Eq.refl _).trans rfl
@[go_sem] theorem tt_45 : Tt 45 = Ty.sc D.nilf := (Eq.refl _).trans rfl
@[go_sem] theorem tt_46 : Tt 46 = Ty.sl 1 (D.sl []) := (Eq.refl _).trans rfl
@[go_sem] theorem tt_48 : Tt 48 = Ty.sc D.nilf := (Eq.refl _).trans rfl
@[go_sem] theorem tt_49 : Tt 49 = Ty.sc D.nilf := (Eq.refl _).trans rfl
@[go_sem] theorem tt_50 : Tt 50 = Ty.sc D.nilf := (Eq.refl _).trans rfl
@[go_sem] theorem tt_51 : Tt 51 = Ty.sc D.nilf := (Eq.refl _).trans rfl
@[go_sem] theorem tt_53 : Tt 53 = Ty.sc D.nilf := (Eq.refl _).trans rfl
@[go_sem] theorem tt_54 : Tt 54 = Ty.sc D.nilf := (Eq.refl _).trans rfl
@[go_sem] theorem tt_55 : Tt 55 = Ty.sl 3 (D.agg [D.int IntKind.i64 0, D.int IntKind.i64 0, D.int IntKind.i64 0]) := (Eq.refl _).trans rfl
@[go_sem] theorem tt_57 : Tt 57 = Ty.sc D.nilf := (Eq.refl _).trans rfl
@[go_sem] theorem tt_58 : Tt 58 = Ty.sc D.nilf := (Eq.refl _).trans rfl
@[go_sem] theorem tt_59 : Tt 59 = Ty.sc D.nilf := (Eq.refl _).trans rfl
@[go_sem] theorem tt_61 : Tt 61 = Ty.sc D.nilf := (Eq.refl _).trans rfl
@[go_sem] theorem tt_62 : Tt 62 = Ty.sl 3 (D.agg [D.int IntKind.i64 0, D.int IntKind.i64 0, D.int IntKind.i64 0]) := (Eq.refl _).trans rfl
@[go_sem] theorem tt_64 : Tt 64 = Ty.sc D.nilf := (Eq.refl _).trans rfl
@[go_sem] theorem tt_65 : Tt 65 = Ty.sc D.nilf := (Eq.refl _).trans rfl
@[go_sem] theorem tt_67 : Tt 67 = Ty.sc D.nilf := (Eq.refl _).trans rfl
@[go_sem] theorem tt_68 : Tt 68 = Ty.sc D.nilf := (Eq.refl _).trans rfl
@[go_sem] theorem tt_69 : Tt 69 = Ty.sc D.nilf := (Eq.refl _).trans rfl
@[go_sem] theorem tt_70 : Tt 70 = Ty.sc D.nilf := (Eq.refl _).trans rfl
@[go_sem] theorem tt_71 : Tt 71 = Ty.sc D.nilf := (Eq.refl _).trans rfl
@[go_sem] theorem tt_72 : Tt 72 = Ty.sc D.nilf := (Eq.refl _).trans rfl
@[go_sem] theorem tt_73 : Tt 73 = Ty.sc D.nilf := (Eq.refl _).trans rfl
@[go_sem] theorem tt_74 : Tt 74 = Ty.sc D.nilf := (Eq.refl _).trans rfl
@[go_sem] theorem tt_75 : Tt 75 = Ty.sc D.nilf := (Eq.refl _).trans rfl
@[go_sem] theorem tt_76 : Tt 76 = Ty.sl 3 (D.agg [D.int IntKind.i64 0, D.int IntKind.i64 0, D.int IntKind.i64 0]) := (Eq.refl _).trans rfl
@[go_sem] theorem tt_78 : Tt 78 = Ty.sc D.nilf := (Eq.refl _).trans rfl
@[go_sem] theorem tt_79 : Tt 79 = Ty.st 3 [(0, 2, 40), (2, 1, 3)] [D.int IntKind.i64 0, D.int IntKind.i64 0, D.int IntKind.i64 0] true := (Eq.refl _).trans rfl
@[go_sem] theorem tt_80 : Tt 80 = Ty.st 3 [(0, 2, 40), (2, 1, 3)] [D.int IntKind.i64 0, D.int IntKind.i64 0, D.int IntKind.i64 0] true := (Eq.refl _).trans rfl
@[go_sem] theorem tt_81 : Tt 81 = Ty.sc D.nilf := (Eq.refl _).trans rfl
@[go_sem] theorem tt_82 : Tt 82 = Ty.sc D.nilf := (Eq.refl _).trans rfl
@[go_sem] theorem tt_83 : Tt 83 = Ty.sc D.nilf := (Eq.refl _).trans rfl
@[go_sem] theorem tt_84 : Tt 84 = Ty.ar 2 1 5 [D.int IntKind.u8 0, D.int IntKind.u8 0] false := (Eq.refl _).trans rfl
@[go_sem] theorem tt_85 : Tt 85 = Ty.sl 3 (D.agg [D.int IntKind.u8 0, D.int IntKind.u8 0, D.int IntKind.u8 0]) := (Eq.refl _).trans rfl
@[go_sem] theorem tt_86 : Tt 86 = Ty.ar 2 2 84 [D.int IntKind.u8 0, D.int IntKind.u8 0, D.int IntKind.u8 0, D.int IntKind.u8 0] false := (Eq.refl _).trans rfl
@[go_sem] theorem tt_87 : Tt 87 = Ty.ar 2 4 86 [D.int IntKind.u8 0, D.int IntKind.u8 0, D.int IntKind.u8 0, D.int IntKind.u8 0, D.int IntKind.u8 0, D.int IntKind.u8 0, D.int IntKind.u8 0, D.int IntKind.u8 0] false := (Eq.refl _).trans rfl
@[go_sem] theorem tt_88 : Tt 88 = Ty.st 12 [(0, 2, 84), (2, 1, 85), (3, 8, 87), (11, 1, 85)] [D.int IntKind.u8 0, D.int IntKind.u8 0, D.sl [], D.int IntKind.u8 0, D.int IntKind.u8 0, D.int IntKind.u8 0, D.int IntKind.u8 0, D.int IntKind.u8 0, D.int IntKind.u8 0, D.int IntKind.u8 0, D.int IntKind.u8 0, D.sl []] false := (Eq.refl _).trans rfl
@[go_sem] theorem tt_89 : Tt 89 = Ty.st 12 [(0, 2, 84), (2, 1, 85), (3, 8, 87), (11, 1, 85)] [D.int IntKind.u8 0, D.int IntKind.u8 0, D.sl [], D.int IntKind.u8 0, D.int IntKind.u8 0, D.int IntKind.u8 0, D.int IntKind.u8 0, D.int IntKind.u8 0, D.int IntKind.u8 0, D.int IntKind.u8 0, D.int IntKind.u8 0, D.sl []] false := (Eq.refl _).trans rfl
@[go_sem] theorem tt_90 : Tt 90 = Ty.ar 2 1 3 [D.int IntKind.i64 0, D.int IntKind.i64 0] false := (Eq.refl _).trans rfl
@[go_sem] theorem tt_91 : Tt 91 = Ty.ar 2 2 90 [D.int IntKind.i64 0, D.int IntKind.i64 0, D.int IntKind.i64 0, D.int IntKind.i64 0] false := (Eq.refl _).trans rfl
@[go_sem] theorem tt_93 : Tt 93 = Ty.sc D.nilf := (Eq.refl _).trans rfl
@[go_sem] theorem tt_94 : Tt 94 = Ty.sc D.nilf := (Eq.refl _).trans rfl
@[go_sem] theorem tt_95 : Tt 95 = Ty.sc D.nilf := (Eq.refl _).trans rfl
@[go_sem] theorem tt_96 : Tt 96 = Ty.sc D.nilf := (Eq.refl _).trans rfl
@[go_sem] theorem tt_97 : Tt 97 = Ty.sc D.nilf := (Eq.refl _).trans rfl
@[go_sem] theorem tt_98 : Tt 98 = Ty.sc D.nilf := (Eq.refl _).trans rfl
@[go_sem] theorem tt_99 : Tt 99 = Ty.st 1 [(0, 1, 28)] [D.sl []] false := (Eq.refl _).trans rfl
@[go_sem] theorem tt_100 : Tt 100 = Ty.st 1 [(0, 1, 28)] [D.sl []] false := (Eq.refl _).trans rfl
@[go_sem] theorem tt_101 : Tt 101 = Ty.sc D.nilf := (Eq.refl _).trans rfl
@[go_sem] theorem tt_102 : Tt 102 = Ty.st 3 [(0, 1, 3), (1, 1, 3), (2, 1, 3)] [D.int IntKind.i64 0, D.int IntKind.i64 0, D.int IntKind.i64 0] true := (Eq.refl _).trans rfl
@[go_sem] theorem tt_103 : Tt 103 = Ty.st 3 [(0, 1, 3), (1, 1, 3), (2, 1, 3)] [D.int IntKind.i64 0, D.int IntKind.i64 0, D.int IntKind.i64 0] true := (Eq.refl _).trans rfl
@[go_sem] theorem tt_104 : Tt 104 = Ty.st 3 [(0, 1, 3), (1, 2, 40)] [D.int IntKind.i64 0, D.int IntKind.i64 0, D.int IntKind.i64 0] true := (Eq.refl _).trans rfl
@[go_sem] theorem tt_105 : Tt 105 = Ty.st 3 [(0, 1, 3), (1, 2, 40)] [D.int IntKind.i64 0, D.int IntKind.i64 0, D.int IntKind.i64 0] true := (Eq.refl _).trans rfl
@[go_sem] theorem tt_106 : Tt 106 = Ty.sc D.nilf := (Eq.refl _).trans rfl
@[go_sem] theorem tt_107 : Tt 107 = Ty.st 3 [(0, 1, 3), (1, 1, 3), (2, 1, 3)] [D.int IntKind.i64 0, D.int IntKind.i64 0, D.int IntKind.i64 0] true := (Eq.refl _).trans rfl
@[go_sem] theorem tt_108 : Tt 108 = Ty.st 3 [(0, 1, 3), (1, 1, 3), (2, 1, 3)] [D.int IntKind.i64 0, D.int IntKind.i64 0, D.int IntKind.i64 0] true := (Eq.refl _).trans rfl
@[go_sem] theorem tt_109 : Tt 109 = Ty.sc D.nilf := (Eq.refl _).trans rfl
@[go_sem] theorem tt_110 : Tt 110 = Ty.sc (D.int IntKind.u16 0) := (Eq.refl _).trans rfl
@[go_sem] theorem tt_111 : Tt 111 = Ty.sl 1 (D.int IntKind.u8 0) := (Eq.refl _).trans rfl
@[go_sem] theorem tt_112 : Tt 112 = Ty.sl 4 (D.agg [D.int IntKind.u8 0, D.int IntKind.u8 0, D.int IntKind.u8 0, D.int IntKind.u8 0]) := (Eq.refl _).trans rfl
@[go_sem] theorem tt_113 : Tt 113 = Ty.ar 4 1 5 [D.int IntKind.u8 0, D.int IntKind.u8 0, D.int IntKind.u8 0, D.int IntKind.u8 0] false := (Eq.refl _).trans rfl
@[go_sem] theorem tt_114 : Tt 114 = Ty.sc D.nilf := (Eq.refl _).trans rfl
@[go_sem] theorem tt_115 : Tt 115 = Ty.sc D.nilf := (Eq.refl _).trans rfl
@[go_sem] theorem tt_116 : Tt 116 = Ty.sc D.nilf := (Eq.refl _).trans rfl
@[go_sem] theorem tt_117 : Tt 117 = Ty.sc D.nilf := (Eq.refl _).trans rfl
@[go_sem] theorem tt_118 : Tt 118 = Ty.sc D.nilf := (Eq.refl _).trans rfl
@[go_sem] theorem tt_119 : Tt 119 = Ty.sc D.nilf := (Eq.refl _).trans rfl
@[go_sem] theorem tt_120 : Tt 120 = Ty.sc D.nilf := (Eq.refl _).trans rfl
@[go_sem] theorem tt_121 : Tt 121 = Ty.sc D.nilf := (Eq.refl _).trans rfl
@[go_sem] theorem tt_122 : Tt 122 = Ty.st 3 [(0, 1, 3), (1, 1, 3), (2, 1, 3)] [D.int IntKind.i64 0, D.int IntKind.i64 0, D.int IntKind.i64 0] true := (Eq.refl _).trans rfl
@[go_sem] theorem tt_123 : Tt 123 = Ty.st 3 [(0, 1, 3), (1, 1, 3), (2, 1, 3)] [D.int IntKind.i64 0, D.int IntKind.i64 0, D.int IntKind.i64 0] true := (Eq.refl _).trans rfl
@[go_sem] theorem tt_124 : Tt 124 = Ty.sc D.nilf := (Eq.refl _).trans rfl
@[go_sem] theorem tt_125 : Tt 125 = Ty.sc D.nilf := (Eq.refl _).trans rfl
@[go_sem] theorem tt_126 : Tt 126 = Ty.sc D.nilf := (Eq.refl _).trans rfl
@[go_sem] theorem tt_127 : Tt 127 = Ty.sc D.nilf := (Eq.refl _).trans rfl
@[go_sem] theorem tt_128 : Tt 128 = Ty.st 4 [(0, 4, 27)] [D.sl [], D.sl [], D.sl [], D.sl []] false := (Eq.refl _).trans rfl
@[go_sem] theorem tt_129 : Tt 129 = Ty.st 4 [(0, 4, 27)] [D.sl [], D.sl [], D.sl [], D.sl []] false := (Eq.refl _).trans rfl
@[go_sem] theorem tt_131 : Tt 131 = Ty.sc D.nilf := (Eq.refl _).trans rfl
@[go_sem] theorem tt_132 : Tt 132 = Ty.ar 3 1 3 [D.int IntKind.i64 0, D.int IntKind.i64 0, D.int IntKind.i64 0] false := (Eq.refl _).trans rfl
@[go_sem] theorem tt_133 : Tt 133 = Ty.ar 3 1 3 [D.int IntKind.i64 0, D.int IntKind.i64 0, D.int IntKind.i64 0] false := (Eq.refl _).trans rfl
@[go_sem] theorem tt_134 : Tt 134 = Ty.ar 3 2 40 [D.int IntKind.i64 0, D.int IntKind.i64 0, D.int IntKind.i64 0, D.int IntKind.i64 0, D.int IntKind.i64 0, D.int IntKind.i64 0] false := (Eq.refl _).trans rfl
@[go_sem] theorem tt_135 : Tt 135 = Ty.st 11 [(0, 1, 3), (1, 3, 133), (4, 6, 134), (10, 1, 3)] [D.int IntKind.i64 0, D.int IntKind.i64 0, D.int IntKind.i64 0, D.int IntKind.i64 0, D.int IntKind.i64 0, D.int IntKind.i64 0, D.int IntKind.i64 0, D.int IntKind.i64 0, D.int IntKind.i64 0, D.int IntKind.i64 0, D.int IntKind.i64 0] false := (Eq.refl _).trans rfl
@[go_sem] theorem tt_136 : Tt 136 = Ty.st 11 [(0, 1, 3), (1, 3, 133), (4, 6, 134), (10, 1, 3)] [D.int IntKind.i64 0, D.int IntKind.i64 0, D.int IntKind.i64 0, D.int IntKind.i64 0, D.int IntKind.i64 0, D.int IntKind.i64 0, D.int IntKind.i64 0, D.int IntKind.i64 0, D.int IntKind.i64 0, D.int IntKind.i64 0, D.int IntKind.i64 0] false := (Eq.refl _).trans rfl
@[go_sem] theorem tt_137 : Tt 137 = Ty.sc D.nilf := (Eq.refl _).trans rfl
@[go_sem] theorem tt_138 : Tt 138 = Ty.sc D.nilf := (Eq.refl _).trans rfl
@[go_sem] theorem tt_139 : Tt 139 = Ty.sc D.nilf := (Eq.refl _).trans rfl
@[go_sem] theorem tt_140 : Tt 140 = Ty.sl 1 (D.sl []) := (Eq.refl _).trans rfl
@[go_sem] theorem tt_141 : Tt 141 = Ty.sc D.nilf := (Eq.refl _).trans rfl
@[go_sem] theorem tt_142 : Tt 142 = Ty.sc D.nilf := (Eq.refl _).trans rfl
@[go_sem] theorem tt_143 : Tt 143 = Ty.sc D.nilf := (Eq.refl _).trans rfl
@[go_sem] theorem tt_145 : Tt 145 = Ty.sc D.nilf := (Eq.refl _).trans rfl
@[go_sem] theorem tt_147 : Tt 147 = Ty.sc D.nilf := (Eq.refl _).trans rfl
@[go_sem] theorem tt_149 : Tt 149 = Ty.sc D.nilf := (Eq.refl _).trans rfl
@[go_sem] theorem tt_150 : Tt 150 = Ty.sc D.nilf := (Eq.refl _).trans rfl
@[go_sem] theorem tt_151 : Tt 151 = Ty.sc D.nilf := (Eq.refl _).trans rfl
@[go_sem] theorem tt_152 : Tt 152 = Ty.sc D.nilf := (Eq.refl _).trans rfl
@[go_sem] theorem tt_153 : Tt 153 = Ty.sc D.nilf := (Eq.refl _).trans rfl
@[go_sem] theorem tt_154 : Tt 154 = Ty.sc D.nilf := (Eq.refl _).trans rfl
@[go_sem] theorem tt_155 : Tt 155 = Ty.sc D.nilf := (Eq.refl _).trans rfl
@[go_sem] theorem tt_156 : Tt 156 = Ty.sc D.nilf := (Eq.refl _).trans rfl
@[go_sem] theorem tt_157 : Tt 157 = Ty.ar 3 1 5 [D.int IntKind.u8 0, D.int IntKind.u8 0, D.int IntKind.u8 0] false := (Eq.refl _).trans rfl
@[go_sem] theorem tt_158 : Tt 158 = Ty.sc D.nilf := (Eq.refl _).trans rfl
@[go_sem] theorem tt_159 : Tt 159 = Ty.sc D.nilf := (Eq.refl _).trans rfl
@[go_sem] theorem tt_160 : Tt 160 = Ty.sc D.nilf := (Eq.refl _).trans rfl
@[go_sem] theorem tt_161 : Tt 161 = Ty.sc D.nilf := (Eq.refl _).trans rfl
@[go_sem] theorem tt_162 : Tt 162 = Ty.sc D.nilf := (Eq.refl _).trans rfl
@[go_sem] theorem tt_163 : Tt 163 = Ty.sc D.nilf := (Eq.refl _).trans rfl
@[go_sem] theorem tt_164 : Tt 164 = Ty.sc D.nilf := (Eq.refl _).trans rfl
@[go_sem] theorem tt_165 : Tt 165 = Ty.sc D.nilf := (Eq.refl _).trans rfl
@[go_sem] theorem tt_166 : Tt 166 = Ty.sc D.nilf := (Eq.refl _).trans rfl
@[go_sem] theorem tt_167 : Tt 167 = Ty.sc D.nilf := (Eq.refl _).trans rfl
@[go_sem] theorem tt_168 : Tt 168 = Ty.sc D.nilf := (Eq.refl _).trans rfl
@[go_sem] theorem tt_169 : Tt 169 = Ty.sc D.nilf := (Eq.refl _).trans rfl
@[go_sem] theorem tt_170 : Tt 170 = Ty.sc D.nilf := (Eq.refl _).trans rfl
@[go_sem] theorem tt_171 : Tt 171 = Ty.sc D.nilf := (Eq.refl _).trans rfl
@[go_sem] theorem tt_172 : Tt 172 = Ty.sc D.nilf := (Eq.refl _).trans rfl
@[go_sem] theorem tt_173 : Tt 173 = Ty.sc (D.int IntKind.u64 0) := (Eq.refl _).trans rfl
@[go_sem] theorem tt_174 : Tt 174 = Ty.sc D.nilf := (Eq.refl _).trans rfl
@[go_sem] theorem tt_175 : Tt 175 = Ty.st 4 [(0, 1, 17), (1, 1, 17), (2, 1, 17), (3, 1, 9)] [D.nilp, D.nilp, D.nilp, D.str ⟨#[]⟩] false := (Eq.refl _).trans rfl
@[go_sem] theorem tt_176 : Tt 176 = Ty.st 4 [(0, 1, 17), (1, 1, 17), (2, 1, 17), (3, 1, 9)] [D.nilp, D.nilp, D.nilp, D.str ⟨#[]⟩] false := (Eq.refl _).trans rfl
@[go_sem] theorem tt_177 : Tt 177 = Ty.ar 0 1 16 [] false := (Eq.refl _).trans rfl
@[go_sem] theorem tt_180 : Tt 180 = Ty.sc D.nilf := (Eq.refl _).trans rfl
@[go_sem] theorem tt_181 : Tt 181 = Ty.sc (D.int IntKind.u32 0) := (Eq.refl _).trans rfl
@[go_sem] theorem tt_182 : Tt 182 = Ty.sc (D.int IntKind.u8 0) := (Eq.refl _).trans rfl
@[go_sem] theorem tt_183 : Tt 183 = Ty.sc (D.int IntKind.u8 0) := (Eq.refl _).trans rfl
@[go_sem] theorem tt_184 : Tt 184 = Ty.sc D.nilf := (Eq.refl _).trans rfl
@[go_sem] theorem tt_185 : Tt 185 = Ty.sc D.nilp := (Eq.refl _).trans rfl
@[go_sem] theorem tt_186 : Tt 186 = Ty.sc (D.int IntKind.i32 0) := (Eq.refl _).trans rfl
@[go_sem] theorem tt_187 : Tt 187 = Ty.sc (D.int IntKind.i32 0) := (Eq.refl _).trans rfl
@[go_sem] theorem tt_188 : Tt 188 = Ty.st 11 [(0, 1, 12), (1, 1, 12), (2, 1, 181), (3, 1, 182), (4, 1, 5), (5, 1, 5), (6, 1, 183), (7, 1, 184), (8, 1, 185), (9, 1, 186), (10, 1, 187)] [D.int IntKind.u64 0, D.int IntKind.u64 0, D.int IntKind.u32 0, D.int IntKind.u8 0, D.int IntKind.u8 0, D.int IntKind.u8 0, D.int IntKind.u8 0, D.nilf, D.nilp, D.int IntKind.i32 0, D.int IntKind.i32 0] false := (Eq.refl _).trans rfl
@[go_sem] theorem tt_189 : Tt 189 = Ty.st 11 [(0, 1, 12), (1, 1, 12), (2, 1, 181), (3, 1, 182), (4, 1, 5), (5, 1, 5), (6, 1, 183), (7, 1, 184), (8, 1, 185), (9, 1, 186), (10, 1, 187)] [D.int IntKind.u64 0, D.int IntKind.u64 0, D.int IntKind.u32 0, D.int IntKind.u8 0, D.int IntKind.u8 0, D.int IntKind.u8 0, D.int IntKind.u8 0, D.nilf, D.nilp, D.int IntKind.i32 0, D.int IntKind.i32 0] false := (Eq.refl _).trans rfl

end Go.Aw
end

section
namespace Go.Aw
open Go Go.Proofs.Try

theorem w64 {n : Int} (h0 : -9223372036854775808 ≤ n) (h1 : n ≤ 9223372036854775807) : IntKind.i64.wrap n = n := by
  simp [IntKind.wrap, IntKind.bits, IntKind.signed]
  omega

theorem c37 (n a b : Int) : PC prog 37 [.d (.int .i64 n), .d (.int .i64 a), .d (.int .i64 b)] (.d (.bool (decide (n ≥ a) && decide (n ≤ b)))) := by
  refine PC.run (fun _ => false) tt_ok (fn := f37) (rs := [.tmp 6]) rfl rfl rfl rfl rfl rfl rfl ?_
  simp only [go_sem, Nat.reduceBEq, Nat.reduceEqDiff, Nat.reduceLT, Nat.reduceLeDiff, Nat.reduceAdd, Nat.reduceSub, Nat.reduceMul, reduceCtorEq, Int.reduceToNat, Int.reduceEq, Int.reduceLT, Int.reduceLE, Int.reduceNe, Int.reduceNeg , or_self, or_false, false_or , List.length_map]
  refine Br_split (fun h => ?_) (fun h => ?_) <;> simp only [go_sem, Nat.reduceBEq, Nat.reduceEqDiff, Nat.reduceLT, Nat.reduceLeDiff, Nat.reduceAdd, Nat.reduceSub, Nat.reduceMul, reduceCtorEq, Int.reduceToNat, Int.reduceEq, Int.reduceLT, Int.reduceLE, Int.reduceNe, Int.reduceNeg , or_self, or_false, false_or , List.length_map, h]

def idx {α : Type} (p : α → Bool) : List α → Int → Int
  | [], _ => -1
  | x :: r, i => if p x = true then i else idx p r (i + 1)

theorem idx_drop {α : Type} (p : α → Bool) {l : List α} {i : Nat} (h : i < l.length) : idx p (l.drop i) i = if p l[i] = true then (i : Int) else idx p (l.drop (i + 1)) ((i + 1 : Nat) : Int) := by
  rw [List.drop_eq_getElem_cons h]
  simp [idx]

theorem idx_ge {α : Type} (p : α → Bool) : ∀ (l : List α) (i : Int), 0 ≤ i → decide (0 ≤ idx p l i) = l.any p
  | [], i, h => by simp [idx]
  | x :: r, i, h => by
    simp only [idx, List.any_cons]
    by_cases hp : p x = true
    · simpa [hp] using h
    · have hp' : p x = false := by simpa using hp
      simpa [hp'] using idx_ge p r (i + 1) (by omega)

/-- What is asked of elements: of their size, and loaded as they are. -/
def Enc {α : Type} (es : Nat) (ty : Ty) (enc : α → D) : Prop := ∀ x, (dcells (enc x)).length = es ∧ loadD ty (dcells (enc x)) = some (enc x)

theorem c96 {α : Type} {enc : α → D} (he : Enc 1 (Tt 3) enc) {H : Heap} {Q : V → Heap → Prop} (l : List α) (hl : l.length ≤ 4294967296) (k : Nat) (fx fy : List V) (p : α → Bool) (hf : ∀ x ∈ l, ∀ Q, Q (.d (.bool (p x))) H → ACallV prog (.fn (.func k) fx fy) [.d (enc x)] H Q) (h : Q (.d (.int .i64 (idx p l 0))) H) :
    ACalls prog 96 [.d (.sl (l.map enc)), .fn (.func k) fx fy] H Q := by
  refine ACalls.run (fun _ => false) tt_ok (fn := f96) (rs := [.tmp 4]) rfl rfl rfl rfl rfl rfl rfl ?_
  simp only [go_sem, Nat.reduceBEq, Nat.reduceEqDiff, Nat.reduceLT, Nat.reduceLeDiff, Nat.reduceAdd, Nat.reduceSub, Nat.reduceMul, reduceCtorEq, Int.reduceToNat, Int.reduceEq, Int.reduceLT, Int.reduceLE, Int.reduceNe, Int.reduceNeg , or_self, or_false, false_or , List.length_map]
  refine ALoop.by (S := Nat) (fun i => [(8, .d (.int .i64 i)), (7, .d (.int .i64 l.length)), (0, .d (.sl (l.map enc))), (1, .fn (.func k) fx fy)]) (fun _ => H) (fun i => l.length - i) (fun i => i ≤ l.length ∧ idx p (l.drop i) i = idx p l 0) 0 (Nat.le_refl _) (fun _ h => nomatch h) ⟨Nat.zero_le _, rfl⟩ ?_ ?_
  · simp [ForgetTo, EW, VW, BBq, Env.look, pubV]
  · rintro i ⟨hi, hx⟩ hn
    refine AWP.run (fun _ => false) tt_ok (fun _ h => nomatch h) hn rfl ?_
    simp only [go_sem, Nat.reduceBEq, Nat.reduceEqDiff, Nat.reduceLT, Nat.reduceLeDiff, Nat.reduceAdd, Nat.reduceSub, Nat.reduceMul, reduceCtorEq, Int.reduceToNat, Int.reduceEq, Int.reduceLT, Int.reduceLE, Int.reduceNe, Int.reduceNeg , or_self, or_false, false_or , List.length_map]
    refine Br_split (fun h => ?_) (fun h => ?_) <;> simp only [go_sem, Nat.reduceBEq, Nat.reduceEqDiff, Nat.reduceLT, Nat.reduceLeDiff, Nat.reduceAdd, Nat.reduceSub, Nat.reduceMul, reduceCtorEq, Int.reduceToNat, Int.reduceEq, Int.reduceLT, Int.reduceLE, Int.reduceNe, Int.reduceNeg , or_self, or_false, false_or , List.length_map, h]
    · have hlt : i < l.length := by simpa using h
      rw [idx_drop p hlt] at hx
      have he1 := (he l[i]).1
      have he2 := (he l[i]).2
      simp only [go_sem, Nat.reduceBEq, Nat.reduceEqDiff, Nat.reduceLT, Nat.reduceLeDiff, Nat.reduceAdd, Nat.reduceSub, Nat.reduceMul, reduceCtorEq, Int.reduceToNat, Int.reduceEq, Int.reduceLT, Int.reduceLE, Int.reduceNe, Int.reduceNeg , or_self, or_false, false_or , List.length_map, he1] at he2
      rw [idx_nat, List.getElem?_map, List.getElem?_eq_getElem hlt]
      simp only [go_sem, Nat.reduceBEq, Nat.reduceEqDiff, Nat.reduceLT, Nat.reduceLeDiff, Nat.reduceAdd, Nat.reduceSub, Nat.reduceMul, reduceCtorEq, Int.reduceToNat, Int.reduceEq, Int.reduceLT, Int.reduceLE, Int.reduceNe, Int.reduceNeg , or_self, or_false, false_or , List.length_map, he1, he2]
      refine hf _ (List.getElem_mem hlt) _ ?_
      simp only [go_sem, Nat.reduceBEq, Nat.reduceEqDiff, Nat.reduceLT, Nat.reduceLeDiff, Nat.reduceAdd, Nat.reduceSub, Nat.reduceMul, reduceCtorEq, Int.reduceToNat, Int.reduceEq, Int.reduceLT, Int.reduceLE, Int.reduceNe, Int.reduceNeg , or_self, or_false, false_or , List.length_map]
      refine Br_split (fun h => ?_) (fun h => ?_) <;> simp only [go_sem, Nat.reduceBEq, Nat.reduceEqDiff, Nat.reduceLT, Nat.reduceLeDiff, Nat.reduceAdd, Nat.reduceSub, Nat.reduceMul, reduceCtorEq, Int.reduceToNat, Int.reduceEq, Int.reduceLT, Int.reduceLE, Int.reduceNe, Int.reduceNeg , or_self, or_false, false_or , List.length_map, h]
      · rw [h] at hx
        simp only [if_true] at hx
        rw [hx]; assumption
      · rw [h] at hx
        simp only [Bool.false_eq_true, if_false] at hx
        exact ⟨i + 1, ⟨hlt, hx⟩, by omega, by simp [ForgetTo, EW, VW, BBq, Env.look, pubV, w64 (n := (i : Int) + 1) (by omega) (by omega)]⟩
    · have hlt : ¬ i < l.length := by simpa using h
      have : l.drop i = [] := List.drop_eq_nil_of_le (by omega)
      rw [this] at hx
      simp only [idx] at hx
      rw [hx]; assumption

theorem c83 {α : Type} {enc : α → D} (he : Enc 1 (Tt 3) enc) {H : Heap} {Q : V → Heap → Prop} (l : List α) (hl : l.length ≤ 4294967296) (k : Nat) (fx fy : List V) (p : α → Bool) (hf : ∀ x ∈ l, ∀ Q, Q (.d (.bool (p x))) H → ACallV prog (.fn (.func k) fx fy) [.d (enc x)] H Q) (h : Q (.d (.bool (l.any p))) H) :
    ACalls prog 83 [.d (.sl (l.map enc)), .fn (.func k) fx fy] H Q := by
  refine ACalls.run (fun _ => false) tt_ok (fn := f83) (rs := [.tmp 4]) rfl rfl rfl rfl rfl rfl rfl ?_
  simp only [go_sem, Nat.reduceBEq, Nat.reduceEqDiff, Nat.reduceLT, Nat.reduceLeDiff, Nat.reduceAdd, Nat.reduceSub, Nat.reduceMul, reduceCtorEq, Int.reduceToNat, Int.reduceEq, Int.reduceLT, Int.reduceLE, Int.reduceNe, Int.reduceNeg , or_self, or_false, false_or , List.length_map]
  refine c96 he l hl k fx fy p hf ?_
  simp only [go_sem, Nat.reduceBEq, Nat.reduceEqDiff, Nat.reduceLT, Nat.reduceLeDiff, Nat.reduceAdd, Nat.reduceSub, Nat.reduceMul, reduceCtorEq, Int.reduceToNat, Int.reduceEq, Int.reduceLT, Int.reduceLE, Int.reduceNe, Int.reduceNeg , or_self, or_false, false_or , List.length_map]
  rw [idx_ge p l 0 (by omega)]
  exact h

theorem c85 {α : Type} {enc : α → D} (he : Enc 2 (Tt 40) enc) {H : Heap} {Q : V → Heap → Prop} (l : List α) (hl : l.length ≤ 4294967296) (k : Nat) (fx fy : List V) (p : α → Bool) (hf : ∀ x ∈ l, ∀ Q, Q (.d (.bool (p x))) H → ACallV prog (.fn (.func k) fx fy) [.d (enc x)] H Q) (h : Q (.d (.int .i64 (idx p l 0))) H) :
    ACalls prog 85 [.d (.sl (l.map enc)), .fn (.func k) fx fy] H Q := by
  refine ACalls.run (fun _ => false) tt_ok (fn := f85) (rs := [.tmp 4]) rfl rfl rfl rfl rfl rfl rfl ?_
  simp only [go_sem, Nat.reduceBEq, Nat.reduceEqDiff, Nat.reduceLT, Nat.reduceLeDiff, Nat.reduceAdd, Nat.reduceSub, Nat.reduceMul, reduceCtorEq, Int.reduceToNat, Int.reduceEq, Int.reduceLT, Int.reduceLE, Int.reduceNe, Int.reduceNeg , or_self, or_false, false_or , List.length_map]
  refine ALoop.by (S := Nat) (fun i => [(8, .d (.int .i64 i)), (7, .d (.int .i64 l.length)), (0, .d (.sl (l.map enc))), (1, .fn (.func k) fx fy)]) (fun _ => H) (fun i => l.length - i) (fun i => i ≤ l.length ∧ idx p (l.drop i) i = idx p l 0) 0 (Nat.le_refl _) (fun _ h => nomatch h) ⟨Nat.zero_le _, rfl⟩ ?_ ?_
  · simp [ForgetTo, EW, VW, BBq, Env.look, pubV]
  · rintro i ⟨hi, hx⟩ hn
    refine AWP.run (fun _ => false) tt_ok (fun _ h => nomatch h) hn rfl ?_
    simp only [go_sem, Nat.reduceBEq, Nat.reduceEqDiff, Nat.reduceLT, Nat.reduceLeDiff, Nat.reduceAdd, Nat.reduceSub, Nat.reduceMul, reduceCtorEq, Int.reduceToNat, Int.reduceEq, Int.reduceLT, Int.reduceLE, Int.reduceNe, Int.reduceNeg , or_self, or_false, false_or , List.length_map]
    refine Br_split (fun h => ?_) (fun h => ?_) <;> simp only [go_sem, Nat.reduceBEq, Nat.reduceEqDiff, Nat.reduceLT, Nat.reduceLeDiff, Nat.reduceAdd, Nat.reduceSub, Nat.reduceMul, reduceCtorEq, Int.reduceToNat, Int.reduceEq, Int.reduceLT, Int.reduceLE, Int.reduceNe, Int.reduceNeg , or_self, or_false, false_or , List.length_map, h]
    · have hlt : i < l.length := by simpa using h
      rw [idx_drop p hlt] at hx
      have he1 := (he l[i]).1
      have he2 := (he l[i]).2
      simp only [go_sem, Nat.reduceBEq, Nat.reduceEqDiff, Nat.reduceLT, Nat.reduceLeDiff, Nat.reduceAdd, Nat.reduceSub, Nat.reduceMul, reduceCtorEq, Int.reduceToNat, Int.reduceEq, Int.reduceLT, Int.reduceLE, Int.reduceNe, Int.reduceNeg , or_self, or_false, false_or , List.length_map, he1] at he2
      rw [idx_nat, List.getElem?_map, List.getElem?_eq_getElem hlt]
      simp only [go_sem, Nat.reduceBEq, Nat.reduceEqDiff, Nat.reduceLT, Nat.reduceLeDiff, Nat.reduceAdd, Nat.reduceSub, Nat.reduceMul, reduceCtorEq, Int.reduceToNat, Int.reduceEq, Int.reduceLT, Int.reduceLE, Int.reduceNe, Int.reduceNeg , or_self, or_false, false_or , List.length_map, he1, he2]
      refine hf _ (List.getElem_mem hlt) _ ?_
      simp only [go_sem, Nat.reduceBEq, Nat.reduceEqDiff, Nat.reduceLT, Nat.reduceLeDiff, Nat.reduceAdd, Nat.reduceSub, Nat.reduceMul, reduceCtorEq, Int.reduceToNat, Int.reduceEq, Int.reduceLT, Int.reduceLE, Int.reduceNe, Int.reduceNeg , or_self, or_false, false_or , List.length_map]
      refine Br_split (fun h => ?_) (fun h => ?_) <;> simp only [go_sem, Nat.reduceBEq, Nat.reduceEqDiff, Nat.reduceLT, Nat.reduceLeDiff, Nat.reduceAdd, Nat.reduceSub, Nat.reduceMul, reduceCtorEq, Int.reduceToNat, Int.reduceEq, Int.reduceLT, Int.reduceLE, Int.reduceNe, Int.reduceNeg , or_self, or_false, false_or , List.length_map, h]
      · rw [h] at hx
        simp only [if_true] at hx
        rw [hx]; assumption
      · rw [h] at hx
        simp only [Bool.false_eq_true, if_false] at hx
        exact ⟨i + 1, ⟨hlt, hx⟩, by omega, by simp [ForgetTo, EW, VW, BBq, Env.look, pubV, w64 (n := (i : Int) + 1) (by omega) (by omega)]⟩
    · have hlt : ¬ i < l.length := by simpa using h
      have : l.drop i = [] := List.drop_eq_nil_of_le (by omega)
      rw [this] at hx
      simp only [idx] at hx
      rw [hx]; assumption

theorem c61 {α : Type} {enc : α → D} (he : Enc 2 (Tt 40) enc) {H : Heap} {Q : V → Heap → Prop} (l : List α) (hl : l.length ≤ 4294967296) (k : Nat) (fx fy : List V) (p : α → Bool) (hf : ∀ x ∈ l, ∀ Q, Q (.d (.bool (p x))) H → ACallV prog (.fn (.func k) fx fy) [.d (enc x)] H Q) (h : Q (.d (.bool (l.any p))) H) :
    ACalls prog 61 [.d (.sl (l.map enc)), .fn (.func k) fx fy] H Q := by
  refine ACalls.run (fun _ => false) tt_ok (fn := f61) (rs := [.tmp 4]) rfl rfl rfl rfl rfl rfl rfl ?_
  simp only [go_sem, Nat.reduceBEq, Nat.reduceEqDiff, Nat.reduceLT, Nat.reduceLeDiff, Nat.reduceAdd, Nat.reduceSub, Nat.reduceMul, reduceCtorEq, Int.reduceToNat, Int.reduceEq, Int.reduceLT, Int.reduceLE, Int.reduceNe, Int.reduceNeg , or_self, or_false, false_or , List.length_map]
  refine c85 he l hl k fx fy p hf ?_
  simp only [go_sem, Nat.reduceBEq, Nat.reduceEqDiff, Nat.reduceLT, Nat.reduceLeDiff, Nat.reduceAdd, Nat.reduceSub, Nat.reduceMul, reduceCtorEq, Int.reduceToNat, Int.reduceEq, Int.reduceLT, Int.reduceLE, Int.reduceNe, Int.reduceNeg , or_self, or_false, false_or , List.length_map]
  rw [idx_ge p l 0 (by omega)]
  exact h

theorem c86 {α : Type} {enc : α → D} (he : Enc 3 (Tt 103) enc) {H : Heap} {Q : V → Heap → Prop} (l : List α) (hl : l.length ≤ 4294967296) (k : Nat) (fx fy : List V) (p : α → Bool) (hf : ∀ x ∈ l, ∀ Q, Q (.d (.bool (p x))) H → ACallV prog (.fn (.func k) fx fy) [.d (enc x)] H Q) (h : Q (.d (.int .i64 (idx p l 0))) H) :
    ACalls prog 86 [.d (.sl (l.map enc)), .fn (.func k) fx fy] H Q := by
  refine ACalls.run (fun _ => false) tt_ok (fn := f86) (rs := [.tmp 4]) rfl rfl rfl rfl rfl rfl rfl ?_
  simp only [go_sem, Nat.reduceBEq, Nat.reduceEqDiff, Nat.reduceLT, Nat.reduceLeDiff, Nat.reduceAdd, Nat.reduceSub, Nat.reduceMul, reduceCtorEq, Int.reduceToNat, Int.reduceEq, Int.reduceLT, Int.reduceLE, Int.reduceNe, Int.reduceNeg , or_self, or_false, false_or , List.length_map]
  refine ALoop.by (S := Nat) (fun i => [(8, .d (.int .i64 i)), (7, .d (.int .i64 l.length)), (0, .d (.sl (l.map enc))), (1, .fn (.func k) fx fy)]) (fun _ => H) (fun i => l.length - i) (fun i => i ≤ l.length ∧ idx p (l.drop i) i = idx p l 0) 0 (Nat.le_refl _) (fun _ h => nomatch h) ⟨Nat.zero_le _, rfl⟩ ?_ ?_
  · simp [ForgetTo, EW, VW, BBq, Env.look, pubV]
  · rintro i ⟨hi, hx⟩ hn
    refine AWP.run (fun _ => false) tt_ok (fun _ h => nomatch h) hn rfl ?_
    simp only [go_sem, Nat.reduceBEq, Nat.reduceEqDiff, Nat.reduceLT, Nat.reduceLeDiff, Nat.reduceAdd, Nat.reduceSub, Nat.reduceMul, reduceCtorEq, Int.reduceToNat, Int.reduceEq, Int.reduceLT, Int.reduceLE, Int.reduceNe, Int.reduceNeg , or_self, or_false, false_or , List.length_map]
    refine Br_split (fun h => ?_) (fun h => ?_) <;> simp only [go_sem, Nat.reduceBEq, Nat.reduceEqDiff, Nat.reduceLT, Nat.reduceLeDiff, Nat.reduceAdd, Nat.reduceSub, Nat.reduceMul, reduceCtorEq, Int.reduceToNat, Int.reduceEq, Int.reduceLT, Int.reduceLE, Int.reduceNe, Int.reduceNeg , or_self, or_false, false_or , List.length_map, h]
    · have hlt : i < l.length := by simpa using h
      rw [idx_drop p hlt] at hx
      have he1 := (he l[i]).1
      have he2 := (he l[i]).2
      simp only [go_sem, Nat.reduceBEq, Nat.reduceEqDiff, Nat.reduceLT, Nat.reduceLeDiff, Nat.reduceAdd, Nat.reduceSub, Nat.reduceMul, reduceCtorEq, Int.reduceToNat, Int.reduceEq, Int.reduceLT, Int.reduceLE, Int.reduceNe, Int.reduceNeg , or_self, or_false, false_or , List.length_map, he1] at he2
      rw [idx_nat, List.getElem?_map, List.getElem?_eq_getElem hlt]
      simp only [go_sem, Nat.reduceBEq, Nat.reduceEqDiff, Nat.reduceLT, Nat.reduceLeDiff, Nat.reduceAdd, Nat.reduceSub, Nat.reduceMul, reduceCtorEq, Int.reduceToNat, Int.reduceEq, Int.reduceLT, Int.reduceLE, Int.reduceNe, Int.reduceNeg , or_self, or_false, false_or , List.length_map, he1, he2]
      refine hf _ (List.getElem_mem hlt) _ ?_
      simp only [go_sem, Nat.reduceBEq, Nat.reduceEqDiff, Nat.reduceLT, Nat.reduceLeDiff, Nat.reduceAdd, Nat.reduceSub, Nat.reduceMul, reduceCtorEq, Int.reduceToNat, Int.reduceEq, Int.reduceLT, Int.reduceLE, Int.reduceNe, Int.reduceNeg , or_self, or_false, false_or , List.length_map]
      refine Br_split (fun h => ?_) (fun h => ?_) <;> simp only [go_sem, Nat.reduceBEq, Nat.reduceEqDiff, Nat.reduceLT, Nat.reduceLeDiff, Nat.reduceAdd, Nat.reduceSub, Nat.reduceMul, reduceCtorEq, Int.reduceToNat, Int.reduceEq, Int.reduceLT, Int.reduceLE, Int.reduceNe, Int.reduceNeg , or_self, or_false, false_or , List.length_map, h]
      · rw [h] at hx
        simp only [if_true] at hx
        rw [hx]; assumption
      · rw [h] at hx
        simp only [Bool.false_eq_true, if_false] at hx
        exact ⟨i + 1, ⟨hlt, hx⟩, by omega, by simp [ForgetTo, EW, VW, BBq, Env.look, pubV, w64 (n := (i : Int) + 1) (by omega) (by omega)]⟩
    · have hlt : ¬ i < l.length := by simpa using h
      have : l.drop i = [] := List.drop_eq_nil_of_le (by omega)
      rw [this] at hx
      simp only [idx] at hx
      rw [hx]; assumption

theorem c63 {α : Type} {enc : α → D} (he : Enc 3 (Tt 103) enc) {H : Heap} {Q : V → Heap → Prop} (l : List α) (hl : l.length ≤ 4294967296) (k : Nat) (fx fy : List V) (p : α → Bool) (hf : ∀ x ∈ l, ∀ Q, Q (.d (.bool (p x))) H → ACallV prog (.fn (.func k) fx fy) [.d (enc x)] H Q) (h : Q (.d (.bool (l.any p))) H) :
    ACalls prog 63 [.d (.sl (l.map enc)), .fn (.func k) fx fy] H Q := by
  refine ACalls.run (fun _ => false) tt_ok (fn := f63) (rs := [.tmp 4]) rfl rfl rfl rfl rfl rfl rfl ?_
  simp only [go_sem, Nat.reduceBEq, Nat.reduceEqDiff, Nat.reduceLT, Nat.reduceLeDiff, Nat.reduceAdd, Nat.reduceSub, Nat.reduceMul, reduceCtorEq, Int.reduceToNat, Int.reduceEq, Int.reduceLT, Int.reduceLE, Int.reduceNe, Int.reduceNeg , or_self, or_false, false_or , List.length_map]
  refine c86 he l hl k fx fy p hf ?_
  simp only [go_sem, Nat.reduceBEq, Nat.reduceEqDiff, Nat.reduceLT, Nat.reduceLeDiff, Nat.reduceAdd, Nat.reduceSub, Nat.reduceMul, reduceCtorEq, Int.reduceToNat, Int.reduceEq, Int.reduceLT, Int.reduceLE, Int.reduceNe, Int.reduceNeg , or_self, or_false, false_or , List.length_map]
  rw [idx_ge p l 0 (by omega)]
  exact h

theorem c87 {α : Type} {enc : α → D} (he : Enc 1 (Tt 100) enc) {H : Heap} {Q : V → Heap → Prop} (l : List α) (hl : l.length ≤ 4294967296) (k : Nat) (fx fy : List V) (p : α → Bool) (hf : ∀ x ∈ l, ∀ Q, Q (.d (.bool (p x))) H → ACallV prog (.fn (.func k) fx fy) [.d (enc x)] H Q) (h : Q (.d (.int .i64 (idx p l 0))) H) :
    ACalls prog 87 [.d (.sl (l.map enc)), .fn (.func k) fx fy] H Q := by
  refine ACalls.run (fun _ => false) tt_ok (fn := f87) (rs := [.tmp 4]) rfl rfl rfl rfl rfl rfl rfl ?_
  simp only [go_sem, Nat.reduceBEq, Nat.reduceEqDiff, Nat.reduceLT, Nat.reduceLeDiff, Nat.reduceAdd, Nat.reduceSub, Nat.reduceMul, reduceCtorEq, Int.reduceToNat, Int.reduceEq, Int.reduceLT, Int.reduceLE, Int.reduceNe, Int.reduceNeg , or_self, or_false, false_or , List.length_map]
  refine ALoop.by (S := Nat) (fun i => [(8, .d (.int .i64 i)), (7, .d (.int .i64 l.length)), (0, .d (.sl (l.map enc))), (1, .fn (.func k) fx fy)]) (fun _ => H) (fun i => l.length - i) (fun i => i ≤ l.length ∧ idx p (l.drop i) i = idx p l 0) 0 (Nat.le_refl _) (fun _ h => nomatch h) ⟨Nat.zero_le _, rfl⟩ ?_ ?_
  · simp [ForgetTo, EW, VW, BBq, Env.look, pubV]
  · rintro i ⟨hi, hx⟩ hn
    refine AWP.run (fun _ => false) tt_ok (fun _ h => nomatch h) hn rfl ?_
    simp only [go_sem, Nat.reduceBEq, Nat.reduceEqDiff, Nat.reduceLT, Nat.reduceLeDiff, Nat.reduceAdd, Nat.reduceSub, Nat.reduceMul, reduceCtorEq, Int.reduceToNat, Int.reduceEq, Int.reduceLT, Int.reduceLE, Int.reduceNe, Int.reduceNeg , or_self, or_false, false_or , List.length_map]
    refine Br_split (fun h => ?_) (fun h => ?_) <;> simp only [go_sem, Nat.reduceBEq, Nat.reduceEqDiff, Nat.reduceLT, Nat.reduceLeDiff, Nat.reduceAdd, Nat.reduceSub, Nat.reduceMul, reduceCtorEq, Int.reduceToNat, Int.reduceEq, Int.reduceLT, Int.reduceLE, Int.reduceNe, Int.reduceNeg , or_self, or_false, false_or , List.length_map, h]
    · have hlt : i < l.length := by simpa using h
      rw [idx_drop p hlt] at hx
      have he1 := (he l[i]).1
      have he2 := (he l[i]).2
      simp only [go_sem, Nat.reduceBEq, Nat.reduceEqDiff, Nat.reduceLT, Nat.reduceLeDiff, Nat.reduceAdd, Nat.reduceSub, Nat.reduceMul, reduceCtorEq, Int.reduceToNat, Int.reduceEq, Int.reduceLT, Int.reduceLE, Int.reduceNe, Int.reduceNeg , or_self, or_false, false_or , List.length_map, he1] at he2
      rw [idx_nat, List.getElem?_map, List.getElem?_eq_getElem hlt]
      simp only [go_sem, Nat.reduceBEq, Nat.reduceEqDiff, Nat.reduceLT, Nat.reduceLeDiff, Nat.reduceAdd, Nat.reduceSub, Nat.reduceMul, reduceCtorEq, Int.reduceToNat, Int.reduceEq, Int.reduceLT, Int.reduceLE, Int.reduceNe, Int.reduceNeg , or_self, or_false, false_or , List.length_map, he1, he2]
      refine hf _ (List.getElem_mem hlt) _ ?_
      simp only [go_sem, Nat.reduceBEq, Nat.reduceEqDiff, Nat.reduceLT, Nat.reduceLeDiff, Nat.reduceAdd, Nat.reduceSub, Nat.reduceMul, reduceCtorEq, Int.reduceToNat, Int.reduceEq, Int.reduceLT, Int.reduceLE, Int.reduceNe, Int.reduceNeg , or_self, or_false, false_or , List.length_map]
      refine Br_split (fun h => ?_) (fun h => ?_) <;> simp only [go_sem, Nat.reduceBEq, Nat.reduceEqDiff, Nat.reduceLT, Nat.reduceLeDiff, Nat.reduceAdd, Nat.reduceSub, Nat.reduceMul, reduceCtorEq, Int.reduceToNat, Int.reduceEq, Int.reduceLT, Int.reduceLE, Int.reduceNe, Int.reduceNeg , or_self, or_false, false_or , List.length_map, h]
      · rw [h] at hx
        simp only [if_true] at hx
        rw [hx]; assumption
      · rw [h] at hx
        simp only [Bool.false_eq_true, if_false] at hx
        exact ⟨i + 1, ⟨hlt, hx⟩, by omega, by simp [ForgetTo, EW, VW, BBq, Env.look, pubV, w64 (n := (i : Int) + 1) (by omega) (by omega)]⟩
    · have hlt : ¬ i < l.length := by simpa using h
      have : l.drop i = [] := List.drop_eq_nil_of_le (by omega)
      rw [this] at hx
      simp only [idx] at hx
      rw [hx]; assumption

theorem c64 {α : Type} {enc : α → D} (he : Enc 1 (Tt 100) enc) {H : Heap} {Q : V → Heap → Prop} (l : List α) (hl : l.length ≤ 4294967296) (k : Nat) (fx fy : List V) (p : α → Bool) (hf : ∀ x ∈ l, ∀ Q, Q (.d (.bool (p x))) H → ACallV prog (.fn (.func k) fx fy) [.d (enc x)] H Q) (h : Q (.d (.bool (l.any p))) H) :
    ACalls prog 64 [.d (.sl (l.map enc)), .fn (.func k) fx fy] H Q := by
  refine ACalls.run (fun _ => false) tt_ok (fn := f64) (rs := [.tmp 4]) rfl rfl rfl rfl rfl rfl rfl ?_
  simp only [go_sem, Nat.reduceBEq, Nat.reduceEqDiff, Nat.reduceLT, Nat.reduceLeDiff, Nat.reduceAdd, Nat.reduceSub, Nat.reduceMul, reduceCtorEq, Int.reduceToNat, Int.reduceEq, Int.reduceLT, Int.reduceLE, Int.reduceNe, Int.reduceNeg , or_self, or_false, false_or , List.length_map]
  refine c87 he l hl k fx fy p hf ?_
  simp only [go_sem, Nat.reduceBEq, Nat.reduceEqDiff, Nat.reduceLT, Nat.reduceLeDiff, Nat.reduceAdd, Nat.reduceSub, Nat.reduceMul, reduceCtorEq, Int.reduceToNat, Int.reduceEq, Int.reduceLT, Int.reduceLE, Int.reduceNe, Int.reduceNeg , or_self, or_false, false_or , List.length_map]
  rw [idx_ge p l 0 (by omega)]
  exact h

theorem c88 {α : Type} {enc : α → D} (he : Enc 3 (Tt 123) enc) {H : Heap} {Q : V → Heap → Prop} (l : List α) (hl : l.length ≤ 4294967296) (k : Nat) (fx fy : List V) (p : α → Bool) (hf : ∀ x ∈ l, ∀ Q, Q (.d (.bool (p x))) H → ACallV prog (.fn (.func k) fx fy) [.d (enc x)] H Q) (h : Q (.d (.int .i64 (idx p l 0))) H) :
    ACalls prog 88 [.d (.sl (l.map enc)), .fn (.func k) fx fy] H Q := by
  refine ACalls.run (fun _ => false) tt_ok (fn := f88) (rs := [.tmp 4]) rfl rfl rfl rfl rfl rfl rfl ?_
  simp only [go_sem, Nat.reduceBEq, Nat.reduceEqDiff, Nat.reduceLT, Nat.reduceLeDiff, Nat.reduceAdd, Nat.reduceSub, Nat.reduceMul, reduceCtorEq, Int.reduceToNat, Int.reduceEq, Int.reduceLT, Int.reduceLE, Int.reduceNe, Int.reduceNeg , or_self, or_false, false_or , List.length_map]
  refine ALoop.by (S := Nat) (fun i => [(8, .d (.int .i64 i)), (7, .d (.int .i64 l.length)), (0, .d (.sl (l.map enc))), (1, .fn (.func k) fx fy)]) (fun _ => H) (fun i => l.length - i) (fun i => i ≤ l.length ∧ idx p (l.drop i) i = idx p l 0) 0 (Nat.le_refl _) (fun _ h => nomatch h) ⟨Nat.zero_le _, rfl⟩ ?_ ?_
  · simp [ForgetTo, EW, VW, BBq, Env.look, pubV]
  · rintro i ⟨hi, hx⟩ hn
    refine AWP.run (fun _ => false) tt_ok (fun _ h => nomatch h) hn rfl ?_
    simp only [go_sem, Nat.reduceBEq, Nat.reduceEqDiff, Nat.reduceLT, Nat.reduceLeDiff, Nat.reduceAdd, Nat.reduceSub, Nat.reduceMul, reduceCtorEq, Int.reduceToNat, Int.reduceEq, Int.reduceLT, Int.reduceLE, Int.reduceNe, Int.reduceNeg , or_self, or_false, false_or , List.length_map]
    refine Br_split (fun h => ?_) (fun h => ?_) <;> simp only [go_sem, Nat.reduceBEq, Nat.reduceEqDiff, Nat.reduceLT, Nat.reduceLeDiff, Nat.reduceAdd, Nat.reduceSub, Nat.reduceMul, reduceCtorEq, Int.reduceToNat, Int.reduceEq, Int.reduceLT, Int.reduceLE, Int.reduceNe, Int.reduceNeg , or_self, or_false, false_or , List.length_map, h]
    · have hlt : i < l.length := by simpa using h
      rw [idx_drop p hlt] at hx
      have he1 := (he l[i]).1
      have he2 := (he l[i]).2
      simp only [go_sem, Nat.reduceBEq, Nat.reduceEqDiff, Nat.reduceLT, Nat.reduceLeDiff, Nat.reduceAdd, Nat.reduceSub, Nat.reduceMul, reduceCtorEq, Int.reduceToNat, Int.reduceEq, Int.reduceLT, Int.reduceLE, Int.reduceNe, Int.reduceNeg , or_self, or_false, false_or , List.length_map, he1] at he2
      rw [idx_nat, List.getElem?_map, List.getElem?_eq_getElem hlt]
      simp only [go_sem, Nat.reduceBEq, Nat.reduceEqDiff, Nat.reduceLT, Nat.reduceLeDiff, Nat.reduceAdd, Nat.reduceSub, Nat.reduceMul, reduceCtorEq, Int.reduceToNat, Int.reduceEq, Int.reduceLT, Int.reduceLE, Int.reduceNe, Int.reduceNeg , or_self, or_false, false_or , List.length_map, he1, he2]
      refine hf _ (List.getElem_mem hlt) _ ?_
      simp only [go_sem, Nat.reduceBEq, Nat.reduceEqDiff, Nat.reduceLT, Nat.reduceLeDiff, Nat.reduceAdd, Nat.reduceSub, Nat.reduceMul, reduceCtorEq, Int.reduceToNat, Int.reduceEq, Int.reduceLT, Int.reduceLE, Int.reduceNe, Int.reduceNeg , or_self, or_false, false_or , List.length_map]
      refine Br_split (fun h => ?_) (fun h => ?_) <;> simp only [go_sem, Nat.reduceBEq, Nat.reduceEqDiff, Nat.reduceLT, Nat.reduceLeDiff, Nat.reduceAdd, Nat.reduceSub, Nat.reduceMul, reduceCtorEq, Int.reduceToNat, Int.reduceEq, Int.reduceLT, Int.reduceLE, Int.reduceNe, Int.reduceNeg , or_self, or_false, false_or , List.length_map, h]
      · rw [h] at hx
        simp only [if_true] at hx
        rw [hx]; assumption
      · rw [h] at hx
        simp only [Bool.false_eq_true, if_false] at hx
        exact ⟨i + 1, ⟨hlt, hx⟩, by omega, by simp [ForgetTo, EW, VW, BBq, Env.look, pubV, w64 (n := (i : Int) + 1) (by omega) (by omega)]⟩
    · have hlt : ¬ i < l.length := by simpa using h
      have : l.drop i = [] := List.drop_eq_nil_of_le (by omega)
      rw [this] at hx
      simp only [idx] at hx
      rw [hx]; assumption

theorem c65 {α : Type} {enc : α → D} (he : Enc 3 (Tt 123) enc) {H : Heap} {Q : V → Heap → Prop} (l : List α) (hl : l.length ≤ 4294967296) (k : Nat) (fx fy : List V) (p : α → Bool) (hf : ∀ x ∈ l, ∀ Q, Q (.d (.bool (p x))) H → ACallV prog (.fn (.func k) fx fy) [.d (enc x)] H Q) (h : Q (.d (.bool (l.any p))) H) :
    ACalls prog 65 [.d (.sl (l.map enc)), .fn (.func k) fx fy] H Q := by
  refine ACalls.run (fun _ => false) tt_ok (fn := f65) (rs := [.tmp 4]) rfl rfl rfl rfl rfl rfl rfl ?_
  simp only [go_sem, Nat.reduceBEq, Nat.reduceEqDiff, Nat.reduceLT, Nat.reduceLeDiff, Nat.reduceAdd, Nat.reduceSub, Nat.reduceMul, reduceCtorEq, Int.reduceToNat, Int.reduceEq, Int.reduceLT, Int.reduceLE, Int.reduceNe, Int.reduceNeg , or_self, or_false, false_or , List.length_map]
  refine c88 he l hl k fx fy p hf ?_
  simp only [go_sem, Nat.reduceBEq, Nat.reduceEqDiff, Nat.reduceLT, Nat.reduceLeDiff, Nat.reduceAdd, Nat.reduceSub, Nat.reduceMul, reduceCtorEq, Int.reduceToNat, Int.reduceEq, Int.reduceLT, Int.reduceLE, Int.reduceNe, Int.reduceNeg , or_self, or_false, false_or , List.length_map]
  rw [idx_ge p l 0 (by omega)]
  exact h

theorem c95 {α : Type} {enc : α → D} (he : Enc 3 (Tt 80) enc) {H : Heap} {Q : V → Heap → Prop} (l : List α) (hl : l.length ≤ 4294967296) (k : Nat) (fx fy : List V) (p : α → Bool) (hf : ∀ x ∈ l, ∀ Q, Q (.d (.bool (p x))) H → ACallV prog (.fn (.func k) fx fy) [.d (enc x)] H Q) (h : Q (.d (.int .i64 (idx p l 0))) H) :
    ACalls prog 95 [.d (.sl (l.map enc)), .fn (.func k) fx fy] H Q := by
  refine ACalls.run (fun _ => false) tt_ok (fn := f95) (rs := [.tmp 4]) rfl rfl rfl rfl rfl rfl rfl ?_
  simp only [go_sem, Nat.reduceBEq, Nat.reduceEqDiff, Nat.reduceLT, Nat.reduceLeDiff, Nat.reduceAdd, Nat.reduceSub, Nat.reduceMul, reduceCtorEq, Int.reduceToNat, Int.reduceEq, Int.reduceLT, Int.reduceLE, Int.reduceNe, Int.reduceNeg , or_self, or_false, false_or , List.length_map]
  refine ALoop.by (S := Nat) (fun i => [(8, .d (.int .i64 i)), (7, .d (.int .i64 l.length)), (0, .d (.sl (l.map enc))), (1, .fn (.func k) fx fy)]) (fun _ => H) (fun i => l.length - i) (fun i => i ≤ l.length ∧ idx p (l.drop i) i = idx p l 0) 0 (Nat.le_refl _) (fun _ h => nomatch h) ⟨Nat.zero_le _, rfl⟩ ?_ ?_
  · simp [ForgetTo, EW, VW, BBq, Env.look, pubV]
  · rintro i ⟨hi, hx⟩ hn
    refine AWP.run (fun _ => false) tt_ok (fun _ h => nomatch h) hn rfl ?_
    simp only [go_sem, Nat.reduceBEq, Nat.reduceEqDiff, Nat.reduceLT, Nat.reduceLeDiff, Nat.reduceAdd, Nat.reduceSub, Nat.reduceMul, reduceCtorEq, Int.reduceToNat, Int.reduceEq, Int.reduceLT, Int.reduceLE, Int.reduceNe, Int.reduceNeg , or_self, or_false, false_or , List.length_map]
    refine Br_split (fun h => ?_) (fun h => ?_) <;> simp only [go_sem, Nat.reduceBEq, Nat.reduceEqDiff, Nat.reduceLT, Nat.reduceLeDiff, Nat.reduceAdd, Nat.reduceSub, Nat.reduceMul, reduceCtorEq, Int.reduceToNat, Int.reduceEq, Int.reduceLT, Int.reduceLE, Int.reduceNe, Int.reduceNeg , or_self, or_false, false_or , List.length_map, h]
    · have hlt : i < l.length := by simpa using h
      rw [idx_drop p hlt] at hx
      have he1 := (he l[i]).1
      have he2 := (he l[i]).2
      simp only [go_sem, Nat.reduceBEq, Nat.reduceEqDiff, Nat.reduceLT, Nat.reduceLeDiff, Nat.reduceAdd, Nat.reduceSub, Nat.reduceMul, reduceCtorEq, Int.reduceToNat, Int.reduceEq, Int.reduceLT, Int.reduceLE, Int.reduceNe, Int.reduceNeg , or_self, or_false, false_or , List.length_map, he1] at he2
      rw [idx_nat, List.getElem?_map, List.getElem?_eq_getElem hlt]
      simp only [go_sem, Nat.reduceBEq, Nat.reduceEqDiff, Nat.reduceLT, Nat.reduceLeDiff, Nat.reduceAdd, Nat.reduceSub, Nat.reduceMul, reduceCtorEq, Int.reduceToNat, Int.reduceEq, Int.reduceLT, Int.reduceLE, Int.reduceNe, Int.reduceNeg , or_self, or_false, false_or , List.length_map, he1, he2]
      refine hf _ (List.getElem_mem hlt) _ ?_
      simp only [go_sem, Nat.reduceBEq, Nat.reduceEqDiff, Nat.reduceLT, Nat.reduceLeDiff, Nat.reduceAdd, Nat.reduceSub, Nat.reduceMul, reduceCtorEq, Int.reduceToNat, Int.reduceEq, Int.reduceLT, Int.reduceLE, Int.reduceNe, Int.reduceNeg , or_self, or_false, false_or , List.length_map]
      refine Br_split (fun h => ?_) (fun h => ?_) <;> simp only [go_sem, Nat.reduceBEq, Nat.reduceEqDiff, Nat.reduceLT, Nat.reduceLeDiff, Nat.reduceAdd, Nat.reduceSub, Nat.reduceMul, reduceCtorEq, Int.reduceToNat, Int.reduceEq, Int.reduceLT, Int.reduceLE, Int.reduceNe, Int.reduceNeg , or_self, or_false, false_or , List.length_map, h]
      · rw [h] at hx
        simp only [if_true] at hx
        rw [hx]; assumption
      · rw [h] at hx
        simp only [Bool.false_eq_true, if_false] at hx
        exact ⟨i + 1, ⟨hlt, hx⟩, by omega, by simp [ForgetTo, EW, VW, BBq, Env.look, pubV, w64 (n := (i : Int) + 1) (by omega) (by omega)]⟩
    · have hlt : ¬ i < l.length := by simpa using h
      have : l.drop i = [] := List.drop_eq_nil_of_le (by omega)
      rw [this] at hx
      simp only [idx] at hx
      rw [hx]; assumption

theorem c82 {α : Type} {enc : α → D} (he : Enc 3 (Tt 80) enc) {H : Heap} {Q : V → Heap → Prop} (l : List α) (hl : l.length ≤ 4294967296) (k : Nat) (fx fy : List V) (p : α → Bool) (hf : ∀ x ∈ l, ∀ Q, Q (.d (.bool (p x))) H → ACallV prog (.fn (.func k) fx fy) [.d (enc x)] H Q) (h : Q (.d (.bool (l.any p))) H) :
    ACalls prog 82 [.d (.sl (l.map enc)), .fn (.func k) fx fy] H Q := by
  refine ACalls.run (fun _ => false) tt_ok (fn := f82) (rs := [.tmp 4]) rfl rfl rfl rfl rfl rfl rfl ?_
  simp only [go_sem, Nat.reduceBEq, Nat.reduceEqDiff, Nat.reduceLT, Nat.reduceLeDiff, Nat.reduceAdd, Nat.reduceSub, Nat.reduceMul, reduceCtorEq, Int.reduceToNat, Int.reduceEq, Int.reduceLT, Int.reduceLE, Int.reduceNe, Int.reduceNeg , or_self, or_false, false_or , List.length_map]
  refine c95 he l hl k fx fy p hf ?_
  simp only [go_sem, Nat.reduceBEq, Nat.reduceEqDiff, Nat.reduceLT, Nat.reduceLeDiff, Nat.reduceAdd, Nat.reduceSub, Nat.reduceMul, reduceCtorEq, Int.reduceToNat, Int.reduceEq, Int.reduceLT, Int.reduceLE, Int.reduceNe, Int.reduceNeg , or_self, or_false, false_or , List.length_map]
  rw [idx_ge p l 0 (by omega)]
  exact h

end Go.Aw
end

section
namespace Go.Aw
open Go Go.Proofs.Try

theorem c84 {n a b : Int} {i j : Nat} {H : Heap} {Q : V → Heap → Prop} (h0 : H[i]? = some (.cells [.d (.int .i64 a)])) (h1 : H[j]? = some (.cells [.d (.int .i64 b)])) (h : Q (.d (.bool (decide (n < a) || decide (b < n)))) H) :
    ACalls prog 84 [.d (.int .i64 n), .ptr i 0, .ptr j 0] H Q := by
  refine ACalls.run (fun _ => false) tt_ok (fn := f84) (rs := [.tmp 4]) rfl rfl rfl rfl rfl rfl rfl ?_
  simp only [go_sem, Nat.reduceBEq, Nat.reduceEqDiff, Nat.reduceLT, Nat.reduceLeDiff, Nat.reduceAdd, Nat.reduceSub, Nat.reduceMul, reduceCtorEq, Int.reduceToNat, Int.reduceEq, Int.reduceLT, Int.reduceLE, Int.reduceNe, Int.reduceNeg , or_self, or_false, false_or , List.length_map, h0, h1]
  refine Br_split (fun hc => ?_) (fun hc => ?_) <;> simp only [go_sem, Nat.reduceBEq, Nat.reduceEqDiff, Nat.reduceLT, Nat.reduceLeDiff, Nat.reduceAdd, Nat.reduceSub, Nat.reduceMul, reduceCtorEq, Int.reduceToNat, Int.reduceEq, Int.reduceLT, Int.reduceLE, Int.reduceNe, Int.reduceNeg , or_self, or_false, false_or , List.length_map, h0, h1, hc]
  · rw [hc] at h; exact h
  · rw [hc] at h; exact h

def within (a b : Int) (l : List Int) : Bool := !l.any fun n => decide (n < a) || decide (b < n)

theorem enc_int : Enc 1 (Tt 3) (D.int .i64) := fun x => ⟨rfl, rfl⟩

theorem c57 (a b : Int) (l : List Int) (hl : l.length ≤ 4294967296) : PC prog 57 [.d (.int .i64 a), .d (.int .i64 b), .d (.sl (l.map (.int .i64)))] (.d (.bool (within a b l))) := by
  refine PC.run (fun _ => false) tt_ok (fn := f57) (rs := [.tmp 6]) rfl rfl rfl rfl rfl rfl rfl ?_
  simp only [go_sem, Nat.reduceBEq, Nat.reduceEqDiff, Nat.reduceLT, Nat.reduceLeDiff, Nat.reduceAdd, Nat.reduceSub, Nat.reduceMul, reduceCtorEq, Int.reduceToNat, Int.reduceEq, Int.reduceLT, Int.reduceLE, Int.reduceNe, Int.reduceNeg , or_self, or_false, false_or , List.length_map]
  refine ACallV.of rfl (c83 enc_int l hl 84 [] [.ptr 0 0, .ptr 1 0] (fun n => decide (n < a) || decide (b < n)) (fun x _ Q h => ACallV.of rfl (c84 rfl rfl h)) ?_)
  simp only [go_sem, Nat.reduceBEq, Nat.reduceEqDiff, Nat.reduceLT, Nat.reduceLeDiff, Nat.reduceAdd, Nat.reduceSub, Nat.reduceMul, reduceCtorEq, Int.reduceToNat, Int.reduceEq, Int.reduceLT, Int.reduceLE, Int.reduceNe, Int.reduceNeg , or_self, or_false, false_or , List.length_map, within]

/-- A span. -/
structure Sp where
  lo : Int
  hi : Int
deriving DecidableEq

def Sp.d (s : Sp) : D := .agg [.int .i64 s.lo, .int .i64 s.hi]

theorem enc_sp : Enc 2 (Tt 40) Sp.d := fun x => ⟨rfl, rfl⟩

theorem c59 (a b : Int) (s : Sp) : PC prog 59 [.d (.int .i64 a), .d (.int .i64 b), .d s.d] (.d (.bool (within a b [s.lo, s.hi] && decide (s.lo ≤ s.hi)))) := by
  refine PC.run (fun _ => false) tt_ok (fn := f59) (rs := [.tmp 6]) rfl rfl rfl rfl rfl rfl rfl ?_
  simp only [go_sem, Nat.reduceBEq, Nat.reduceEqDiff, Nat.reduceLT, Nat.reduceLeDiff, Nat.reduceAdd, Nat.reduceSub, Nat.reduceMul, reduceCtorEq, Int.reduceToNat, Int.reduceEq, Int.reduceLT, Int.reduceLE, Int.reduceNe, Int.reduceNeg , or_self, or_false, false_or , List.length_map, Sp.d]
  refine (c57 a b [s.lo, s.hi] (by simp)).call rfl rfl rfl ?_
  simp only [go_sem, Nat.reduceBEq, Nat.reduceEqDiff, Nat.reduceLT, Nat.reduceLeDiff, Nat.reduceAdd, Nat.reduceSub, Nat.reduceMul, reduceCtorEq, Int.reduceToNat, Int.reduceEq, Int.reduceLT, Int.reduceLE, Int.reduceNe, Int.reduceNeg , or_self, or_false, false_or , List.length_map]
  refine Br_split (fun hc => ?_) (fun hc => ?_) <;> simp only [go_sem, Nat.reduceBEq, Nat.reduceEqDiff, Nat.reduceLT, Nat.reduceLeDiff, Nat.reduceAdd, Nat.reduceSub, Nat.reduceMul, reduceCtorEq, Int.reduceToNat, Int.reduceEq, Int.reduceLT, Int.reduceLE, Int.reduceNe, Int.reduceNeg , or_self, or_false, false_or , List.length_map, hc]

theorem c69 (s : Sp) (a b : Int) : PC prog 69 [.d s.d, .d (.int .i64 a), .d (.int .i64 b)] (.d (.bool (decide (s.lo ≥ a) && decide (s.lo ≤ s.hi) && decide (s.hi ≤ b)))) := by
  refine PC.run (fun _ => false) tt_ok (fn := f69) (rs := [.tmp 6]) rfl rfl rfl rfl rfl rfl rfl ?_
  simp only [go_sem, Nat.reduceBEq, Nat.reduceEqDiff, Nat.reduceLT, Nat.reduceLeDiff, Nat.reduceAdd, Nat.reduceSub, Nat.reduceMul, reduceCtorEq, Int.reduceToNat, Int.reduceEq, Int.reduceLT, Int.reduceLE, Int.reduceNe, Int.reduceNeg , or_self, or_false, false_or , List.length_map, Sp.d]
  refine (c37 _ _ _).call rfl rfl rfl ?_
  simp only [go_sem, Nat.reduceBEq, Nat.reduceEqDiff, Nat.reduceLT, Nat.reduceLeDiff, Nat.reduceAdd, Nat.reduceSub, Nat.reduceMul, reduceCtorEq, Int.reduceToNat, Int.reduceEq, Int.reduceLT, Int.reduceLE, Int.reduceNe, Int.reduceNeg , or_self, or_false, false_or , List.length_map]
  refine Br_split (fun hc => ?_) (fun hc => ?_) <;> simp only [go_sem, Nat.reduceBEq, Nat.reduceEqDiff, Nat.reduceLT, Nat.reduceLeDiff, Nat.reduceAdd, Nat.reduceSub, Nat.reduceMul, reduceCtorEq, Int.reduceToNat, Int.reduceEq, Int.reduceLT, Int.reduceLE, Int.reduceNe, Int.reduceNeg , or_self, or_false, false_or , List.length_map, hc]
end Go.Aw
end

section
namespace Go.Aw
open Go Go.Proofs.Try

theorem c24 (a b : Int) : PC prog 24 [.d (.int .i64 a), .d (.int .i64 b)] (.d (Sp.mk a b).d) := by
  refine PC.run (fun _ => false) tt_ok (fn := f24) (rs := [.cell 4 40]) rfl rfl rfl rfl rfl rfl rfl ?_
  simp only [go_sem, Nat.reduceBEq, Nat.reduceEqDiff, Nat.reduceLT, Nat.reduceLeDiff, Nat.reduceAdd, Nat.reduceSub, Nat.reduceMul, reduceCtorEq, Int.reduceToNat, Int.reduceEq, Int.reduceLT, Int.reduceLE, Int.reduceNe, Int.reduceNeg , or_self, or_false, false_or , List.length_map, Sp.d]

/-- A sale. -/
structure Sale where
  oz : Sp
  price : Int
deriving DecidableEq

def Sale.d (s : Sale) : D := .agg [.int .i64 s.oz.lo, .int .i64 s.oz.hi, .int .i64 s.price]

theorem enc_sale : Enc 3 (Tt 80) Sale.d := fun x => ⟨rfl, rfl⟩

def badSale (s : Sale) : Bool := !(within 1 5000 [s.oz.lo, s.oz.hi] && decide (s.oz.lo ≤ s.oz.hi)) || !within 0 240 [s.price]

theorem c81 (s : Sale) : PC prog 81 [.d s.d] (.d (.bool (badSale s))) := by
  refine PC.run (fun _ => false) tt_ok (fn := f81) (rs := [.tmp 2]) rfl rfl rfl rfl rfl rfl rfl ?_
  simp only [go_sem, Nat.reduceBEq, Nat.reduceEqDiff, Nat.reduceLT, Nat.reduceLeDiff, Nat.reduceAdd, Nat.reduceSub, Nat.reduceMul, reduceCtorEq, Int.reduceToNat, Int.reduceEq, Int.reduceLT, Int.reduceLE, Int.reduceNe, Int.reduceNeg , or_self, or_false, false_or , List.length_map, Sale.d]
  refine (c59 1 5000 s.oz).call rfl rfl rfl ?_
  simp only [go_sem, Nat.reduceBEq, Nat.reduceEqDiff, Nat.reduceLT, Nat.reduceLeDiff, Nat.reduceAdd, Nat.reduceSub, Nat.reduceMul, reduceCtorEq, Int.reduceToNat, Int.reduceEq, Int.reduceLT, Int.reduceLE, Int.reduceNe, Int.reduceNeg , or_self, or_false, false_or , List.length_map]
  refine Br_split (fun hc => ?_) (fun hc => ?_)
  · simp only [go_sem, Nat.reduceBEq, Nat.reduceEqDiff, Nat.reduceLT, Nat.reduceLeDiff, Nat.reduceAdd, Nat.reduceSub, Nat.reduceMul, reduceCtorEq, Int.reduceToNat, Int.reduceEq, Int.reduceLT, Int.reduceLE, Int.reduceNe, Int.reduceNeg , or_self, or_false, false_or , List.length_map, hc, badSale, Bool.true_or]
  · simp only [go_sem, Nat.reduceBEq, Nat.reduceEqDiff, Nat.reduceLT, Nat.reduceLeDiff, Nat.reduceAdd, Nat.reduceSub, Nat.reduceMul, reduceCtorEq, Int.reduceToNat, Int.reduceEq, Int.reduceLT, Int.reduceLE, Int.reduceNe, Int.reduceNeg , or_self, or_false, false_or , List.length_map, hc]
    refine (c57 0 240 [s.price] (by simp)).call rfl rfl rfl ?_
    simp only [go_sem, Nat.reduceBEq, Nat.reduceEqDiff, Nat.reduceLT, Nat.reduceLeDiff, Nat.reduceAdd, Nat.reduceSub, Nat.reduceMul, reduceCtorEq, Int.reduceToNat, Int.reduceEq, Int.reduceLT, Int.reduceLE, Int.reduceNe, Int.reduceNeg , or_self, or_false, false_or , List.length_map, hc, badSale, Bool.false_or]

abbrev wr (n : Int) : Int := IntKind.i64.wrap n

def chipR (s : Sp) (x : Sale) : Sp := ⟨wr (s.lo + wr ((wr (x.oz.lo * x.price)).tdiv 16)), wr (s.hi + wr ((wr (x.oz.hi * x.price)).tdiv 16))⟩

theorem foldl_take {α β : Type} (f : β → α → β) (b : β) {l : List α} {i : Nat} (h : i < l.length) : (l.take (i + 1)).foldl f b = f ((l.take i).foldl f b) l[i] := by
  rw [List.take_succ_eq_append_getElem h, List.foldl_append]
  rfl

theorem c47 (l : List Sale) (hl : l.length ≤ 4294967296) : PC prog 47 [.d (.sl (l.map Sale.d))] (.d (l.foldl chipR ⟨0, 0⟩).d) := by
  refine PC.run (fun _ => false) tt_ok (fn := f47) (rs := [.cell 2 40]) rfl rfl rfl rfl rfl rfl rfl ?_
  simp only [go_sem, Nat.reduceBEq, Nat.reduceEqDiff, Nat.reduceLT, Nat.reduceLeDiff, Nat.reduceAdd, Nat.reduceSub, Nat.reduceMul, reduceCtorEq, Int.reduceToNat, Int.reduceEq, Int.reduceLT, Int.reduceLE, Int.reduceNe, Int.reduceNeg , or_self, or_false, false_or , List.length_map]
  refine ALoop.by (S := Nat) (fun i => [(4, .d (.int .i64 i)), (3, .ptr 1 0), (2, .ptr 0 0), (0, .d (.sl (l.map Sale.d)))])
    (fun i => [.cells [.d (.int .i64 0), .d (.int .i64 0)], .cells [.d (.int .i64 ((l.take i).foldl chipR ⟨0, 0⟩).lo), .d (.int .i64 ((l.take i).foldl chipR ⟨0, 0⟩).hi)]]) (fun i => l.length - i) (fun i => i ≤ l.length) 0 (by simp) (fun _ h => nomatch h) (Nat.zero_le _) ?_ ?_
  · simp [ForgetTo, EW, VW, BBq, BBs, BB, VBs, VB, Env.look, pubV]
  · rintro i hi hn
    refine AWP.run (fun _ => false) tt_ok (fun _ h => nomatch h) (by simp) rfl ?_
    simp only [go_sem, Nat.reduceBEq, Nat.reduceEqDiff, Nat.reduceLT, Nat.reduceLeDiff, Nat.reduceAdd, Nat.reduceSub, Nat.reduceMul, reduceCtorEq, Int.reduceToNat, Int.reduceEq, Int.reduceLT, Int.reduceLE, Int.reduceNe, Int.reduceNeg , or_self, or_false, false_or , List.length_map]
    refine Br_split (fun hc => ?_) (fun hc => ?_) <;> simp only [go_sem, Nat.reduceBEq, Nat.reduceEqDiff, Nat.reduceLT, Nat.reduceLeDiff, Nat.reduceAdd, Nat.reduceSub, Nat.reduceMul, reduceCtorEq, Int.reduceToNat, Int.reduceEq, Int.reduceLT, Int.reduceLE, Int.reduceNe, Int.reduceNeg , or_self, or_false, false_or , List.length_map, hc]
    · have hlt : i < l.length := by simpa using hc
      refine ADrw.walk (fun _ => false) tt_ok (by kernel_rfl) (fun k => if k = 1 ∨ k = 17 then .R else if k = 33 then .W else .S) (by simp) (fun _ h => nomatch h) rfl (by kernel_rfl) ?_
      simp only [go_sem, Nat.reduceBEq, Nat.reduceEqDiff, Nat.reduceLT, Nat.reduceLeDiff, Nat.reduceAdd, Nat.reduceSub, Nat.reduceMul, reduceCtorEq, Int.reduceToNat, Int.reduceEq, Int.reduceLT, Int.reduceLE, Int.reduceNe, Int.reduceNeg , or_self, or_false, false_or , List.length_map, idx_nat, List.getElem?_map, List.getElem?_eq_getElem hlt, Sale.d]
      refine ⟨i + 1, hlt, by omega, ?_⟩
      rw [foldl_take _ _ hlt]
      simp [ForgetTo, EW, VW, BBq, BBs, BB, VBs, VB, Env.look, pubV, w64 (n := (i : Int) + 1) (by omega) (by omega), chipR]
    · have hlt : ¬ i < l.length := by simpa using hc
      rw [List.take_of_length_le (by omega)]
      simp only [Sp.d]

def badR (s : Sale) : Bool := !(decide (s.oz.lo ≥ 1) && decide (s.oz.lo ≤ s.oz.hi) && decide (s.oz.hi ≤ 5000)) || !(decide (s.price ≥ 0) && decide (s.price ≤ 240))

def salesR (l : List Sale) : Int := if l.length > 10 then 5 else if l.any badR = true then 2 else 0

theorem c46 (l : List Sale) (hl : l.length ≤ 4294967296) : PC prog 46 [.d (.sl (l.map Sale.d))] (.d (.int .i64 (salesR l))) := by
  refine PC.run (fun _ => false) tt_ok (fn := f46) (rs := [.tmp 2]) rfl rfl rfl rfl rfl rfl rfl ?_
  simp only [go_sem, Nat.reduceBEq, Nat.reduceEqDiff, Nat.reduceLT, Nat.reduceLeDiff, Nat.reduceAdd, Nat.reduceSub, Nat.reduceMul, reduceCtorEq, Int.reduceToNat, Int.reduceEq, Int.reduceLT, Int.reduceLE, Int.reduceNe, Int.reduceNeg , or_self, or_false, false_or , List.length_map]
  refine Br_split (fun hc => ?_) (fun hc => ?_) <;> simp only [go_sem, Nat.reduceBEq, Nat.reduceEqDiff, Nat.reduceLT, Nat.reduceLeDiff, Nat.reduceAdd, Nat.reduceSub, Nat.reduceMul, reduceCtorEq, Int.reduceToNat, Int.reduceEq, Int.reduceLT, Int.reduceLE, Int.reduceNe, Int.reduceNeg , or_self, or_false, false_or , List.length_map, hc]
  · have : l.length > 10 := by simp at hc; omega
    simp [salesR, this]
  · have hlen : ¬ l.length > 10 := by simp at hc; omega
    refine ALoop.by (S := Nat) (fun i => [(3, .d (.int .i64 i)), (0, .d (.sl (l.map Sale.d)))]) (fun i => []) (fun i => l.length - i) (fun i => i ≤ l.length ∧ (l.take i).any badR = false) 0 (by simp) (fun _ h => nomatch h) ⟨Nat.zero_le _, rfl⟩ ?_ ?_
    · simp [ForgetTo, EW, VW, BBq, BBs, BB, VBs, VB, Env.look, pubV]
    · rintro i ⟨hi, hx⟩ hn
      refine AWP.run (fun _ => false) tt_ok (fun _ h => nomatch h) (by simp) rfl ?_
      simp only [go_sem, Nat.reduceBEq, Nat.reduceEqDiff, Nat.reduceLT, Nat.reduceLeDiff, Nat.reduceAdd, Nat.reduceSub, Nat.reduceMul, reduceCtorEq, Int.reduceToNat, Int.reduceEq, Int.reduceLT, Int.reduceLE, Int.reduceNe, Int.reduceNeg , or_self, or_false, false_or , List.length_map]
      refine Br_split (fun hc => ?_) (fun hc => ?_) <;> simp only [go_sem, Nat.reduceBEq, Nat.reduceEqDiff, Nat.reduceLT, Nat.reduceLeDiff, Nat.reduceAdd, Nat.reduceSub, Nat.reduceMul, reduceCtorEq, Int.reduceToNat, Int.reduceEq, Int.reduceLT, Int.reduceLE, Int.reduceNe, Int.reduceNeg , or_self, or_false, false_or , List.length_map, hc]
      · have hlt : i < l.length := by simpa using hc
        simp only [go_sem, Nat.reduceBEq, Nat.reduceEqDiff, Nat.reduceLT, Nat.reduceLeDiff, Nat.reduceAdd, Nat.reduceSub, Nat.reduceMul, reduceCtorEq, Int.reduceToNat, Int.reduceEq, Int.reduceLT, Int.reduceLE, Int.reduceNe, Int.reduceNeg , or_self, or_false, false_or , List.length_map, idx_nat, List.getElem?_map, List.getElem?_eq_getElem hlt, Sale.d]
        have any1 : (l.take (i + 1)).any badR = badR l[i] := by
          rw [List.take_succ_eq_append_getElem hlt, List.any_append, hx]
          simp
        have stop : badR l[i] = true → salesR l = 2 := by
          intro hb
          have : l.any badR = true := by
            rw [List.any_eq_true]
            exact ⟨l[i], List.getElem_mem hlt, hb⟩
          simp [salesR, hlen, this]
        refine (c69 l[i].oz 1 5000).call rfl rfl rfl ?_
        simp only [go_sem, Nat.reduceBEq, Nat.reduceEqDiff, Nat.reduceLT, Nat.reduceLeDiff, Nat.reduceAdd, Nat.reduceSub, Nat.reduceMul, reduceCtorEq, Int.reduceToNat, Int.reduceEq, Int.reduceLT, Int.reduceLE, Int.reduceNe, Int.reduceNeg , or_self, or_false, false_or , List.length_map, idx_nat, List.getElem?_map, List.getElem?_eq_getElem hlt, Sale.d]
        refine Br_split (fun hd => ?_) (fun hd => ?_) <;> simp only [go_sem, Nat.reduceBEq, Nat.reduceEqDiff, Nat.reduceLT, Nat.reduceLeDiff, Nat.reduceAdd, Nat.reduceSub, Nat.reduceMul, reduceCtorEq, Int.reduceToNat, Int.reduceEq, Int.reduceLT, Int.reduceLE, Int.reduceNe, Int.reduceNeg , or_self, or_false, false_or , List.length_map, hd, idx_nat, List.getElem?_map, List.getElem?_eq_getElem hlt, Sale.d]
        · rw [stop (by simp only [badR, hd, Bool.true_or])]
        · refine (c37 l[i].price 0 240).call rfl rfl rfl ?_
          simp only [go_sem, Nat.reduceBEq, Nat.reduceEqDiff, Nat.reduceLT, Nat.reduceLeDiff, Nat.reduceAdd, Nat.reduceSub, Nat.reduceMul, reduceCtorEq, Int.reduceToNat, Int.reduceEq, Int.reduceLT, Int.reduceLE, Int.reduceNe, Int.reduceNeg , or_self, or_false, false_or , List.length_map, hd]
          refine Br_split (fun he => ?_) (fun he => ?_) <;> simp only [go_sem, Nat.reduceBEq, Nat.reduceEqDiff, Nat.reduceLT, Nat.reduceLeDiff, Nat.reduceAdd, Nat.reduceSub, Nat.reduceMul, reduceCtorEq, Int.reduceToNat, Int.reduceEq, Int.reduceLT, Int.reduceLE, Int.reduceNe, Int.reduceNeg , or_self, or_false, false_or , List.length_map, he, hd]
          · rw [stop (by simp only [badR, he, Bool.or_true])]
          · refine ⟨i + 1, ⟨hlt, by rw [any1]; simp only [badR, hd, he, Bool.or_self]⟩, by omega, ?_⟩
            simp [ForgetTo, EW, VW, BBq, BBs, BB, VBs, VB, Env.look, pubV, w64 (n := (i : Int) + 1) (by omega) (by omega)]
      · have hlt : ¬ i < l.length := by simpa using hc
        rw [List.take_of_length_le (by omega)] at hx
        simp [salesR, hlen, hx]

def chipsL (l : List Sale) : Sp × Int := if l.length > 10 then (⟨0, 0⟩, 5) else if l.any badSale = true then (⟨0, 0⟩, 2) else (l.foldl chipR ⟨0, 0⟩, 0)

theorem c45 (l : List Sale) (hl : l.length ≤ 4294967296) : PC prog 45 [.d (.sl (l.map Sale.d))] (.tup [.d (chipsL l).1.d, .d (.int .i64 (chipsL l).2)]) := by
  refine PC.run (fun _ => false) tt_ok (fn := f45) (rs := [.cell 2 40, .tmp 3]) rfl rfl rfl rfl rfl rfl rfl ?_
  simp only [go_sem, Nat.reduceBEq, Nat.reduceEqDiff, Nat.reduceLT, Nat.reduceLeDiff, Nat.reduceAdd, Nat.reduceSub, Nat.reduceMul, reduceCtorEq, Int.reduceToNat, Int.reduceEq, Int.reduceLT, Int.reduceLE, Int.reduceNe, Int.reduceNeg , or_self, or_false, false_or , List.length_map]
  refine Br_split (fun hc => ?_) (fun hc => ?_) <;> simp only [go_sem, Nat.reduceBEq, Nat.reduceEqDiff, Nat.reduceLT, Nat.reduceLeDiff, Nat.reduceAdd, Nat.reduceSub, Nat.reduceMul, reduceCtorEq, Int.reduceToNat, Int.reduceEq, Int.reduceLT, Int.reduceLE, Int.reduceNe, Int.reduceNeg , or_self, or_false, false_or , List.length_map, hc]
  · have : l.length > 10 := by simp at hc; omega
    simp [chipsL, this, Sp.d]
  · have hlen : ¬ l.length > 10 := by simp at hc; omega
    refine ACallV.of rfl (c82 enc_sale l hl 81 [] [] badSale (fun x _ Q h => (c81 x).call rfl rfl rfl h) ?_)
    simp only [go_sem, Nat.reduceBEq, Nat.reduceEqDiff, Nat.reduceLT, Nat.reduceLeDiff, Nat.reduceAdd, Nat.reduceSub, Nat.reduceMul, reduceCtorEq, Int.reduceToNat, Int.reduceEq, Int.reduceLT, Int.reduceLE, Int.reduceNe, Int.reduceNeg , or_self, or_false, false_or , List.length_map]
    refine Br_split (fun hb => ?_) (fun hb => ?_) <;> simp only [go_sem, Nat.reduceBEq, Nat.reduceEqDiff, Nat.reduceLT, Nat.reduceLeDiff, Nat.reduceAdd, Nat.reduceSub, Nat.reduceMul, reduceCtorEq, Int.reduceToNat, Int.reduceEq, Int.reduceLT, Int.reduceLE, Int.reduceNe, Int.reduceNeg , or_self, or_false, false_or , List.length_map, hb]
    · simp [chipsL, hlen, hb, Sp.d]
    · refine ALoop.by (S := Nat) (fun i => [(19, .d (.int .i64 i)), (18, .d (.int .i64 l.length)), (17, .d (.sl (l.map Sale.d))), (2, .ptr 0 0)])
        (fun i => [.cells [.d (.int .i64 ((l.take i).foldl chipR ⟨0, 0⟩).lo), .d (.int .i64 ((l.take i).foldl chipR ⟨0, 0⟩).hi)]]) (fun i => l.length - i) (fun i => i ≤ l.length) 0 (by simp) (fun _ h => nomatch h) (Nat.zero_le _) ?_ ?_
      · simp [ForgetTo, EW, VW, BBq, BBs, BB, VBs, VB, Env.look, pubV]
      · rintro i hi hn
        refine AWP.run (fun _ => false) tt_ok (fun _ h => nomatch h) (by simp) rfl ?_
        simp only [go_sem, Nat.reduceBEq, Nat.reduceEqDiff, Nat.reduceLT, Nat.reduceLeDiff, Nat.reduceAdd, Nat.reduceSub, Nat.reduceMul, reduceCtorEq, Int.reduceToNat, Int.reduceEq, Int.reduceLT, Int.reduceLE, Int.reduceNe, Int.reduceNeg , or_self, or_false, false_or , List.length_map]
        refine Br_split (fun hd => ?_) (fun hd => ?_) <;> simp only [go_sem, Nat.reduceBEq, Nat.reduceEqDiff, Nat.reduceLT, Nat.reduceLeDiff, Nat.reduceAdd, Nat.reduceSub, Nat.reduceMul, reduceCtorEq, Int.reduceToNat, Int.reduceEq, Int.reduceLT, Int.reduceLE, Int.reduceNe, Int.reduceNeg , or_self, or_false, false_or , List.length_map, hd]
        · have hlt : i < l.length := by simpa using hd
          simp only [go_sem, Nat.reduceBEq, Nat.reduceEqDiff, Nat.reduceLT, Nat.reduceLeDiff, Nat.reduceAdd, Nat.reduceSub, Nat.reduceMul, reduceCtorEq, Int.reduceToNat, Int.reduceEq, Int.reduceLT, Int.reduceLE, Int.reduceNe, Int.reduceNeg , or_self, or_false, false_or , List.length_map, idx_nat, List.getElem?_map, List.getElem?_eq_getElem hlt, Sale.d]
          refine ⟨i + 1, hlt, by omega, ?_⟩
          rw [foldl_take _ _ hlt]
          simp [ForgetTo, EW, VW, BBq, BBs, BB, VBs, VB, Env.look, pubV, w64 (n := (i : Int) + 1) (by omega) (by omega), chipR]
        · have hlt : ¬ i < l.length := by simpa using hd
          rw [List.take_of_length_le (by omega)]
          simp [chipsL, hlen, hb, Sp.d]
end Go.Aw
end

section
namespace Go.Aw
open Go Go.Proofs.Try

theorem take_succ_eq {α : Type} [DecidableEq α] {a b : List α} {i : Nat} (ha : i < a.length) (hb : i < b.length) (h : a.take i = b.take i) : a.take (i + 1) = b.take (i + 1) ↔ a[i] = b[i] := by
  rw [List.take_succ_eq_append_getElem ha, h, List.take_succ_eq_append_getElem hb]
  simp only [List.append_cancel_left_eq, List.cons.injEq, and_true]

theorem c28 (a b : List Int) (ha : a.length ≤ 4294967296) (hb : b.length ≤ 4294967296) : PC prog 28 [.d (.sl (a.map (.int .i64))), .d (.sl (b.map (.int .i64)))] (.d (.bool (decide (a = b)))) := by
  refine PC.run (fun _ => false) tt_ok (fn := f28) (rs := [.tmp 4]) rfl rfl rfl rfl rfl rfl rfl ?_
  simp only [go_sem, Nat.reduceBEq, Nat.reduceEqDiff, Nat.reduceLT, Nat.reduceLeDiff, Nat.reduceAdd, Nat.reduceSub, Nat.reduceMul, reduceCtorEq, Int.reduceToNat, Int.reduceEq, Int.reduceLT, Int.reduceLE, Int.reduceNe, Int.reduceNeg , or_self, or_false, false_or , List.length_map]
  refine Br_split (fun hc => ?_) (fun hc => ?_) <;> simp only [go_sem, Nat.reduceBEq, Nat.reduceEqDiff, Nat.reduceLT, Nat.reduceLeDiff, Nat.reduceAdd, Nat.reduceSub, Nat.reduceMul, reduceCtorEq, Int.reduceToNat, Int.reduceEq, Int.reduceLT, Int.reduceLE, Int.reduceNe, Int.reduceNeg , or_self, or_false, false_or , List.length_map, hc]
  · have : a ≠ b := fun e => by subst e; simp at hc
    simp [this]
  · have hlen : a.length = b.length := by simp at hc; omega
    refine ALoop.by (S := Nat) (fun i => [(5, .d (.int .i64 i)), (0, .d (.sl (a.map (.int .i64)))), (1, .d (.sl (b.map (.int .i64))))]) (fun i => []) (fun i => a.length - i) (fun i => i ≤ a.length ∧ a.take i = b.take i) 0 (by simp) (fun _ h => nomatch h) ⟨Nat.zero_le _, rfl⟩ ?_ ?_
    · simp [ForgetTo, EW, VW, BBq, BBs, BB, VBs, VB, Env.look, pubV]
    · rintro i ⟨hi, hx⟩ hn
      refine AWP.run (fun _ => false) tt_ok (fun _ h => nomatch h) (by simp) rfl ?_
      simp only [go_sem, Nat.reduceBEq, Nat.reduceEqDiff, Nat.reduceLT, Nat.reduceLeDiff, Nat.reduceAdd, Nat.reduceSub, Nat.reduceMul, reduceCtorEq, Int.reduceToNat, Int.reduceEq, Int.reduceLT, Int.reduceLE, Int.reduceNe, Int.reduceNeg , or_self, or_false, false_or , List.length_map]
      refine Br_split (fun hd => ?_) (fun hd => ?_) <;> simp only [go_sem, Nat.reduceBEq, Nat.reduceEqDiff, Nat.reduceLT, Nat.reduceLeDiff, Nat.reduceAdd, Nat.reduceSub, Nat.reduceMul, reduceCtorEq, Int.reduceToNat, Int.reduceEq, Int.reduceLT, Int.reduceLE, Int.reduceNe, Int.reduceNeg , or_self, or_false, false_or , List.length_map, hd]
      · have hlt : i < a.length := by simpa using hd
        have hlt' : i < b.length := by omega
        refine ADrw.walk (fun _ => false) tt_ok (by kernel_rfl) (fun _ => .S) (by simp) (fun _ h => nomatch h) rfl (by kernel_rfl) ?_
        simp only [go_sem, Nat.reduceBEq, Nat.reduceEqDiff, Nat.reduceLT, Nat.reduceLeDiff, Nat.reduceAdd, Nat.reduceSub, Nat.reduceMul, reduceCtorEq, Int.reduceToNat, Int.reduceEq, Int.reduceLT, Int.reduceLE, Int.reduceNe, Int.reduceNeg , or_self, or_false, false_or , List.length_map, idx_nat, List.getElem?_map, List.getElem?_eq_getElem hlt, List.getElem?_eq_getElem hlt']
        refine Br_split (fun he => ?_) (fun he => ?_) <;> simp only [go_sem, Nat.reduceBEq, Nat.reduceEqDiff, Nat.reduceLT, Nat.reduceLeDiff, Nat.reduceAdd, Nat.reduceSub, Nat.reduceMul, reduceCtorEq, Int.reduceToNat, Int.reduceEq, Int.reduceLT, Int.reduceLE, Int.reduceNe, Int.reduceNeg , or_self, or_false, false_or , List.length_map, he]
        · have : a ≠ b := fun e => by subst e; simp at he
          simp [this]
        · have heq : a[i] = b[i] := by simpa using he
          refine ⟨i + 1, ⟨hlt, (take_succ_eq hlt hlt' hx).2 heq⟩, by omega, ?_⟩
          simp [ForgetTo, EW, VW, BBq, BBs, BB, VBs, VB, Env.look, pubV, w64 (n := (i : Int) + 1) (by omega) (by omega)]
      · have hlt : ¬ i < a.length := by simpa using hd
        rw [List.take_of_length_le (by omega), List.take_of_length_le (by omega)] at hx
        simp [hx]

/-- What must be bought; a mended entry. -/
structure BuyS where
  goods : Int
  by_ : Int
  amount : Int
deriving DecidableEq

def BuyS.d (s : BuyS) : D := .agg [.int .i64 s.goods, .int .i64 s.by_, .int .i64 s.amount]

structure FixS where
  entry : Int
  amounts : Sp
deriving DecidableEq

def FixS.d (s : FixS) : D := .agg [.int .i64 s.entry, .int .i64 s.amounts.lo, .int .i64 s.amounts.hi]

theorem Sp.same {a b : Sp} (h : a.lo = b.lo ∧ a.hi = b.hi) : a = b := by
  cases a; cases b; simp_all
theorem BuyS.same {a b : BuyS} (h : a.goods = b.goods ∧ a.by_ = b.by_ ∧ a.amount = b.amount) : a = b := by
  cases a; cases b; simp_all
theorem FixS.same {a b : FixS} (h : a.entry = b.entry ∧ a.amounts.lo = b.amounts.lo ∧ a.amounts.hi = b.amounts.hi) : a = b := by
  obtain ⟨e, ⟨l, h1⟩⟩ := a; obtain ⟨e', ⟨l', h2⟩⟩ := b; simp_all

theorem c21 (a b : List Sp) (ha : a.length ≤ 4294967296) (hb : b.length ≤ 4294967296) : PC prog 21 [.d (.sl (a.map Sp.d)), .d (.sl (b.map Sp.d))] (.d (.bool (decide (a = b)))) := by
  refine PC.run (fun _ => false) tt_ok (fn := f21) (rs := [.tmp 4]) rfl rfl rfl rfl rfl rfl rfl ?_
  simp only [go_sem, Nat.reduceBEq, Nat.reduceEqDiff, Nat.reduceLT, Nat.reduceLeDiff, Nat.reduceAdd, Nat.reduceSub, Nat.reduceMul, reduceCtorEq, Int.reduceToNat, Int.reduceEq, Int.reduceLT, Int.reduceLE, Int.reduceNe, Int.reduceNeg , or_self, or_false, false_or , List.length_map]
  refine Br_split (fun hc => ?_) (fun hc => ?_) <;> simp only [go_sem, Nat.reduceBEq, Nat.reduceEqDiff, Nat.reduceLT, Nat.reduceLeDiff, Nat.reduceAdd, Nat.reduceSub, Nat.reduceMul, reduceCtorEq, Int.reduceToNat, Int.reduceEq, Int.reduceLT, Int.reduceLE, Int.reduceNe, Int.reduceNeg , or_self, or_false, false_or , List.length_map, hc]
  · have : a ≠ b := fun e => by subst e; simp at hc
    simp [this]
  · have hlen : a.length = b.length := by simp at hc; omega
    refine ALoop.by (S := Nat) (fun i => [(5, .d (.int .i64 i)), (0, .d (.sl (a.map Sp.d))), (1, .d (.sl (b.map Sp.d)))]) (fun i => []) (fun i => a.length - i) (fun i => i ≤ a.length ∧ a.take i = b.take i) 0 (by simp) (fun _ h => nomatch h) ⟨Nat.zero_le _, rfl⟩ ?_ ?_
    · simp [ForgetTo, EW, VW, BBq, BBs, BB, VBs, VB, Env.look, pubV]
    · rintro i ⟨hi, hx⟩ hn
      refine AWP.run (fun _ => false) tt_ok (fun _ h => nomatch h) (by simp) rfl ?_
      simp only [go_sem, Nat.reduceBEq, Nat.reduceEqDiff, Nat.reduceLT, Nat.reduceLeDiff, Nat.reduceAdd, Nat.reduceSub, Nat.reduceMul, reduceCtorEq, Int.reduceToNat, Int.reduceEq, Int.reduceLT, Int.reduceLE, Int.reduceNe, Int.reduceNeg , or_self, or_false, false_or , List.length_map]
      refine Br_split (fun hd => ?_) (fun hd => ?_) <;> simp only [go_sem, Nat.reduceBEq, Nat.reduceEqDiff, Nat.reduceLT, Nat.reduceLeDiff, Nat.reduceAdd, Nat.reduceSub, Nat.reduceMul, reduceCtorEq, Int.reduceToNat, Int.reduceEq, Int.reduceLT, Int.reduceLE, Int.reduceNe, Int.reduceNeg , or_self, or_false, false_or , List.length_map, hd]
      · have hlt : i < a.length := by simpa using hd
        have hlt' : i < b.length := by omega
        refine ADrw.walk (fun _ => false) tt_ok (by kernel_rfl) (fun _ => .S) (by simp) (fun _ h => nomatch h) rfl (by kernel_rfl) ?_
        simp only [go_sem, Nat.reduceBEq, Nat.reduceEqDiff, Nat.reduceLT, Nat.reduceLeDiff, Nat.reduceAdd, Nat.reduceSub, Nat.reduceMul, reduceCtorEq, Int.reduceToNat, Int.reduceEq, Int.reduceLT, Int.reduceLE, Int.reduceNe, Int.reduceNeg , or_self, or_false, false_or , List.length_map, idx_nat, List.getElem?_map, List.getElem?_eq_getElem hlt, List.getElem?_eq_getElem hlt', Sp.d]
        refine Br_split (fun he => ?_) (fun he => ?_) <;> simp only [go_sem, Nat.reduceBEq, Nat.reduceEqDiff, Nat.reduceLT, Nat.reduceLeDiff, Nat.reduceAdd, Nat.reduceSub, Nat.reduceMul, reduceCtorEq, Int.reduceToNat, Int.reduceEq, Int.reduceLT, Int.reduceLE, Int.reduceNe, Int.reduceNeg , or_self, or_false, false_or , List.length_map, he]
        · have : a ≠ b := fun e => by subst e; simp at he
          simp [this]
        · have heq : a[i] = b[i] := Sp.same (by simpa using he)
          refine ⟨i + 1, ⟨hlt, (take_succ_eq hlt hlt' hx).2 heq⟩, by omega, ?_⟩
          simp [ForgetTo, EW, VW, BBq, BBs, BB, VBs, VB, Env.look, pubV, w64 (n := (i : Int) + 1) (by omega) (by omega)]
      · have hlt : ¬ i < a.length := by simpa using hd
        rw [List.take_of_length_le (by omega), List.take_of_length_le (by omega)] at hx
        simp [hx]

theorem c34 (a b : List FixS) (ha : a.length ≤ 4294967296) (hb : b.length ≤ 4294967296) : PC prog 34 [.d (.sl (a.map FixS.d)), .d (.sl (b.map FixS.d))] (.d (.bool (decide (a = b)))) := by
  refine PC.run (fun _ => false) tt_ok (fn := f34) (rs := [.tmp 4]) rfl rfl rfl rfl rfl rfl rfl ?_
  simp only [go_sem, Nat.reduceBEq, Nat.reduceEqDiff, Nat.reduceLT, Nat.reduceLeDiff, Nat.reduceAdd, Nat.reduceSub, Nat.reduceMul, reduceCtorEq, Int.reduceToNat, Int.reduceEq, Int.reduceLT, Int.reduceLE, Int.reduceNe, Int.reduceNeg , or_self, or_false, false_or , List.length_map]
  refine Br_split (fun hc => ?_) (fun hc => ?_) <;> simp only [go_sem, Nat.reduceBEq, Nat.reduceEqDiff, Nat.reduceLT, Nat.reduceLeDiff, Nat.reduceAdd, Nat.reduceSub, Nat.reduceMul, reduceCtorEq, Int.reduceToNat, Int.reduceEq, Int.reduceLT, Int.reduceLE, Int.reduceNe, Int.reduceNeg , or_self, or_false, false_or , List.length_map, hc]
  · have : a ≠ b := fun e => by subst e; simp at hc
    simp [this]
  · have hlen : a.length = b.length := by simp at hc; omega
    refine ALoop.by (S := Nat) (fun i => [(5, .d (.int .i64 i)), (0, .d (.sl (a.map FixS.d))), (1, .d (.sl (b.map FixS.d)))]) (fun i => []) (fun i => a.length - i) (fun i => i ≤ a.length ∧ a.take i = b.take i) 0 (by simp) (fun _ h => nomatch h) ⟨Nat.zero_le _, rfl⟩ ?_ ?_
    · simp [ForgetTo, EW, VW, BBq, BBs, BB, VBs, VB, Env.look, pubV]
    · rintro i ⟨hi, hx⟩ hn
      refine AWP.run (fun _ => false) tt_ok (fun _ h => nomatch h) (by simp) rfl ?_
      simp only [go_sem, Nat.reduceBEq, Nat.reduceEqDiff, Nat.reduceLT, Nat.reduceLeDiff, Nat.reduceAdd, Nat.reduceSub, Nat.reduceMul, reduceCtorEq, Int.reduceToNat, Int.reduceEq, Int.reduceLT, Int.reduceLE, Int.reduceNe, Int.reduceNeg , or_self, or_false, false_or , List.length_map]
      refine Br_split (fun hd => ?_) (fun hd => ?_) <;> simp only [go_sem, Nat.reduceBEq, Nat.reduceEqDiff, Nat.reduceLT, Nat.reduceLeDiff, Nat.reduceAdd, Nat.reduceSub, Nat.reduceMul, reduceCtorEq, Int.reduceToNat, Int.reduceEq, Int.reduceLT, Int.reduceLE, Int.reduceNe, Int.reduceNeg , or_self, or_false, false_or , List.length_map, hd]
      · have hlt : i < a.length := by simpa using hd
        have hlt' : i < b.length := by omega
        refine ADrw.walk (fun _ => false) tt_ok (by kernel_rfl) (fun _ => .S) (by simp) (fun _ h => nomatch h) rfl (by kernel_rfl) ?_
        simp only [go_sem, Nat.reduceBEq, Nat.reduceEqDiff, Nat.reduceLT, Nat.reduceLeDiff, Nat.reduceAdd, Nat.reduceSub, Nat.reduceMul, reduceCtorEq, Int.reduceToNat, Int.reduceEq, Int.reduceLT, Int.reduceLE, Int.reduceNe, Int.reduceNeg , or_self, or_false, false_or , List.length_map, idx_nat, List.getElem?_map, List.getElem?_eq_getElem hlt, List.getElem?_eq_getElem hlt', FixS.d]
        refine Br_split (fun he => ?_) (fun he => ?_) <;> simp only [go_sem, Nat.reduceBEq, Nat.reduceEqDiff, Nat.reduceLT, Nat.reduceLeDiff, Nat.reduceAdd, Nat.reduceSub, Nat.reduceMul, reduceCtorEq, Int.reduceToNat, Int.reduceEq, Int.reduceLT, Int.reduceLE, Int.reduceNe, Int.reduceNeg , or_self, or_false, false_or , List.length_map, he]
        · have : a ≠ b := fun e => by subst e; simp at he
          simp [this]
        · have heq : a[i] = b[i] := FixS.same (by simpa using he)
          refine ⟨i + 1, ⟨hlt, (take_succ_eq hlt hlt' hx).2 heq⟩, by omega, ?_⟩
          simp [ForgetTo, EW, VW, BBq, BBs, BB, VBs, VB, Env.look, pubV, w64 (n := (i : Int) + 1) (by omega) (by omega)]
      · have hlt : ¬ i < a.length := by simpa using hd
        rw [List.take_of_length_le (by omega), List.take_of_length_le (by omega)] at hx
        simp [hx]

theorem c40 (a b : List BuyS) (ha : a.length ≤ 4294967296) (hb : b.length ≤ 4294967296) : PC prog 40 [.d (.sl (a.map BuyS.d)), .d (.sl (b.map BuyS.d))] (.d (.bool (decide (a = b)))) := by
  refine PC.run (fun _ => false) tt_ok (fn := f40) (rs := [.tmp 4]) rfl rfl rfl rfl rfl rfl rfl ?_
  simp only [go_sem, Nat.reduceBEq, Nat.reduceEqDiff, Nat.reduceLT, Nat.reduceLeDiff, Nat.reduceAdd, Nat.reduceSub, Nat.reduceMul, reduceCtorEq, Int.reduceToNat, Int.reduceEq, Int.reduceLT, Int.reduceLE, Int.reduceNe, Int.reduceNeg , or_self, or_false, false_or , List.length_map]
  refine Br_split (fun hc => ?_) (fun hc => ?_) <;> simp only [go_sem, Nat.reduceBEq, Nat.reduceEqDiff, Nat.reduceLT, Nat.reduceLeDiff, Nat.reduceAdd, Nat.reduceSub, Nat.reduceMul, reduceCtorEq, Int.reduceToNat, Int.reduceEq, Int.reduceLT, Int.reduceLE, Int.reduceNe, Int.reduceNeg , or_self, or_false, false_or , List.length_map, hc]
  · have : a ≠ b := fun e => by subst e; simp at hc
    simp [this]
  · have hlen : a.length = b.length := by simp at hc; omega
    refine ALoop.by (S := Nat) (fun i => [(5, .d (.int .i64 i)), (0, .d (.sl (a.map BuyS.d))), (1, .d (.sl (b.map BuyS.d)))]) (fun i => []) (fun i => a.length - i) (fun i => i ≤ a.length ∧ a.take i = b.take i) 0 (by simp) (fun _ h => nomatch h) ⟨Nat.zero_le _, rfl⟩ ?_ ?_
    · simp [ForgetTo, EW, VW, BBq, BBs, BB, VBs, VB, Env.look, pubV]
    · rintro i ⟨hi, hx⟩ hn
      refine AWP.run (fun _ => false) tt_ok (fun _ h => nomatch h) (by simp) rfl ?_
      simp only [go_sem, Nat.reduceBEq, Nat.reduceEqDiff, Nat.reduceLT, Nat.reduceLeDiff, Nat.reduceAdd, Nat.reduceSub, Nat.reduceMul, reduceCtorEq, Int.reduceToNat, Int.reduceEq, Int.reduceLT, Int.reduceLE, Int.reduceNe, Int.reduceNeg , or_self, or_false, false_or , List.length_map]
      refine Br_split (fun hd => ?_) (fun hd => ?_) <;> simp only [go_sem, Nat.reduceBEq, Nat.reduceEqDiff, Nat.reduceLT, Nat.reduceLeDiff, Nat.reduceAdd, Nat.reduceSub, Nat.reduceMul, reduceCtorEq, Int.reduceToNat, Int.reduceEq, Int.reduceLT, Int.reduceLE, Int.reduceNe, Int.reduceNeg , or_self, or_false, false_or , List.length_map, hd]
      · have hlt : i < a.length := by simpa using hd
        have hlt' : i < b.length := by omega
        refine ADrw.walk (fun _ => false) tt_ok (by kernel_rfl) (fun _ => .S) (by simp) (fun _ h => nomatch h) rfl (by kernel_rfl) ?_
        simp only [go_sem, Nat.reduceBEq, Nat.reduceEqDiff, Nat.reduceLT, Nat.reduceLeDiff, Nat.reduceAdd, Nat.reduceSub, Nat.reduceMul, reduceCtorEq, Int.reduceToNat, Int.reduceEq, Int.reduceLT, Int.reduceLE, Int.reduceNe, Int.reduceNeg , or_self, or_false, false_or , List.length_map, idx_nat, List.getElem?_map, List.getElem?_eq_getElem hlt, List.getElem?_eq_getElem hlt', BuyS.d]
        refine Br_split (fun he => ?_) (fun he => ?_) <;> simp only [go_sem, Nat.reduceBEq, Nat.reduceEqDiff, Nat.reduceLT, Nat.reduceLeDiff, Nat.reduceAdd, Nat.reduceSub, Nat.reduceMul, reduceCtorEq, Int.reduceToNat, Int.reduceEq, Int.reduceLT, Int.reduceLE, Int.reduceNe, Int.reduceNeg , or_self, or_false, false_or , List.length_map, he]
        · have : a ≠ b := fun e => by subst e; simp at he
          simp [this]
        · have heq : a[i] = b[i] := BuyS.same (by simpa using he)
          refine ⟨i + 1, ⟨hlt, (take_succ_eq hlt hlt' hx).2 heq⟩, by omega, ?_⟩
          simp [ForgetTo, EW, VW, BBq, BBs, BB, VBs, VB, Env.look, pubV, w64 (n := (i : Int) + 1) (by omega) (by omega)]
      · have hlt : ¬ i < a.length := by simpa using hd
        rw [List.take_of_length_le (by omega), List.take_of_length_le (by omega)] at hx
        simp [hx]


def lists (l : List (List Sp)) : D := .sl (l.map fun x => .sl (x.map Sp.d))

theorem c31 (a b : List (List Sp)) (ha : a.length ≤ 4294967296) (hb : b.length ≤ 4294967296) (ha' : ∀ x ∈ a, x.length ≤ 4294967296) (hb' : ∀ x ∈ b, x.length ≤ 4294967296) : PC prog 31 [.d (lists a), .d (lists b)] (.d (.bool (decide (a = b)))) := by
  refine PC.run (fun _ => false) tt_ok (fn := f31) (rs := [.tmp 4]) rfl rfl rfl rfl rfl rfl rfl ?_
  simp only [go_sem, Nat.reduceBEq, Nat.reduceEqDiff, Nat.reduceLT, Nat.reduceLeDiff, Nat.reduceAdd, Nat.reduceSub, Nat.reduceMul, reduceCtorEq, Int.reduceToNat, Int.reduceEq, Int.reduceLT, Int.reduceLE, Int.reduceNe, Int.reduceNeg , or_self, or_false, false_or , List.length_map, lists]
  refine Br_split (fun hc => ?_) (fun hc => ?_) <;> simp only [go_sem, Nat.reduceBEq, Nat.reduceEqDiff, Nat.reduceLT, Nat.reduceLeDiff, Nat.reduceAdd, Nat.reduceSub, Nat.reduceMul, reduceCtorEq, Int.reduceToNat, Int.reduceEq, Int.reduceLT, Int.reduceLE, Int.reduceNe, Int.reduceNeg , or_self, or_false, false_or , List.length_map, hc]
  · have : a ≠ b := fun e => by subst e; simp at hc
    simp [this]
  · have hlen : a.length = b.length := by simp at hc; omega
    refine ALoop.by (S := Nat) (fun i => [(5, .d (.int .i64 i)), (0, .d (lists a)), (1, .d (lists b))]) (fun i => []) (fun i => a.length - i) (fun i => i ≤ a.length ∧ a.take i = b.take i) 0 (by simp) (fun _ h => nomatch h) ⟨Nat.zero_le _, rfl⟩ ?_ ?_
    · simp [ForgetTo, EW, VW, BBq, BBs, BB, VBs, VB, Env.look, pubV, lists]
    · rintro i ⟨hi, hx⟩ hn
      refine AWP.run (fun _ => false) tt_ok (fun _ h => nomatch h) (by simp) rfl ?_
      simp only [go_sem, Nat.reduceBEq, Nat.reduceEqDiff, Nat.reduceLT, Nat.reduceLeDiff, Nat.reduceAdd, Nat.reduceSub, Nat.reduceMul, reduceCtorEq, Int.reduceToNat, Int.reduceEq, Int.reduceLT, Int.reduceLE, Int.reduceNe, Int.reduceNeg , or_self, or_false, false_or , List.length_map, lists]
      refine Br_split (fun hd => ?_) (fun hd => ?_) <;> simp only [go_sem, Nat.reduceBEq, Nat.reduceEqDiff, Nat.reduceLT, Nat.reduceLeDiff, Nat.reduceAdd, Nat.reduceSub, Nat.reduceMul, reduceCtorEq, Int.reduceToNat, Int.reduceEq, Int.reduceLT, Int.reduceLE, Int.reduceNe, Int.reduceNeg , or_self, or_false, false_or , List.length_map, hd]
      · have hlt : i < a.length := by simpa using hd
        have hlt' : i < b.length := by omega
        refine ADrw.walk (fun _ => false) tt_ok (by kernel_rfl) (fun _ => .S) (by simp) (fun _ h => nomatch h) rfl (by kernel_rfl) ?_
        simp only [go_sem, Nat.reduceBEq, Nat.reduceEqDiff, Nat.reduceLT, Nat.reduceLeDiff, Nat.reduceAdd, Nat.reduceSub, Nat.reduceMul, reduceCtorEq, Int.reduceToNat, Int.reduceEq, Int.reduceLT, Int.reduceLE, Int.reduceNe, Int.reduceNeg , or_self, or_false, false_or , List.length_map, idx_nat, List.getElem?_map, List.getElem?_eq_getElem hlt, List.getElem?_eq_getElem hlt']
        refine (c21 a[i] b[i] (ha' _ (List.getElem_mem hlt)) (hb' _ (List.getElem_mem hlt'))).callS rfl rfl rfl rfl rfl rfl ?_
        simp only [go_sem, Nat.reduceBEq, Nat.reduceEqDiff, Nat.reduceLT, Nat.reduceLeDiff, Nat.reduceAdd, Nat.reduceSub, Nat.reduceMul, reduceCtorEq, Int.reduceToNat, Int.reduceEq, Int.reduceLT, Int.reduceLE, Int.reduceNe, Int.reduceNeg , or_self, or_false, false_or , List.length_map]
        refine Br_split (fun he => ?_) (fun he => ?_) <;> simp only [go_sem, Nat.reduceBEq, Nat.reduceEqDiff, Nat.reduceLT, Nat.reduceLeDiff, Nat.reduceAdd, Nat.reduceSub, Nat.reduceMul, reduceCtorEq, Int.reduceToNat, Int.reduceEq, Int.reduceLT, Int.reduceLE, Int.reduceNe, Int.reduceNeg , or_self, or_false, false_or , List.length_map, he]
        · have : a ≠ b := fun e => by subst e; simp at he
          simp [this]
        · have heq : a[i] = b[i] := by simpa using he
          refine ⟨i + 1, ⟨hlt, (take_succ_eq hlt hlt' hx).2 heq⟩, by omega, ?_⟩
          simp [ForgetTo, EW, VW, BBq, BBs, BB, VBs, VB, Env.look, pubV, w64 (n := (i : Int) + 1) (by omega) (by omega), lists]
      · have hlt : ¬ i < a.length := by simpa using hd
        rw [List.take_of_length_le (by omega), List.take_of_length_le (by omega)] at hx
        simp [hx]

end Go.Aw
end

section
namespace Go.Aw
open Go Go.Proofs.Try

def inR (n a b : Int) : Bool := decide (n ≥ a) && decide (n ≤ b)

def partsR (pence : Int) (l : List Int) : Int :=
  if inR pence 0 100000 = false then 3 else if l.any (fun p => !inR p 0 1000) = true then 4 else if (decide (l.length > 6) || !(l.any fun p => decide (p > 0))) = true then 4 else 0

theorem c43 (pence : Int) (l : List Int) (hl : l.length ≤ 4294967296) : PC prog 43 [.d (.int .i64 pence), .d (.sl (l.map (.int .i64)))] (.d (.int .i64 (partsR pence l))) := by
  refine PC.run (fun _ => false) tt_ok (fn := f43) (rs := [.tmp 4]) rfl rfl rfl rfl rfl rfl rfl ?_
  simp only [go_sem, Nat.reduceBEq, Nat.reduceEqDiff, Nat.reduceLT, Nat.reduceLeDiff, Nat.reduceAdd, Nat.reduceSub, Nat.reduceMul, reduceCtorEq, Int.reduceToNat, Int.reduceEq, Int.reduceLT, Int.reduceLE, Int.reduceNe, Int.reduceNeg , or_self, or_false, false_or , List.length_map]
  refine (c37 pence 0 100000).call rfl rfl rfl ?_
  simp only [go_sem, Nat.reduceBEq, Nat.reduceEqDiff, Nat.reduceLT, Nat.reduceLeDiff, Nat.reduceAdd, Nat.reduceSub, Nat.reduceMul, reduceCtorEq, Int.reduceToNat, Int.reduceEq, Int.reduceLT, Int.reduceLE, Int.reduceNe, Int.reduceNeg , or_self, or_false, false_or , List.length_map]
  refine Br_split (fun hc => ?_) (fun hc => ?_) <;> simp only [go_sem, Nat.reduceBEq, Nat.reduceEqDiff, Nat.reduceLT, Nat.reduceLeDiff, Nat.reduceAdd, Nat.reduceSub, Nat.reduceMul, reduceCtorEq, Int.reduceToNat, Int.reduceEq, Int.reduceLT, Int.reduceLE, Int.reduceNe, Int.reduceNeg , or_self, or_false, false_or , List.length_map, hc]
  · have h' : (!inR pence 0 100000) = true := hc
    have : inR pence 0 100000 = false := by simpa using h'
    simp [partsR, this]
  · have h' : (!inR pence 0 100000) = false := hc
    have hin : inR pence 0 100000 = true := by simpa using h'
    refine ALoop.by (S := Nat) (fun i => [(6, .d (.int .i64 i)), (5, .d (.bool ((l.take i).any fun p => decide (p > 0)))), (0, .d (.int .i64 pence)), (1, .d (.sl (l.map (.int .i64))))]) (fun i => []) (fun i => l.length - i) (fun i => i ≤ l.length ∧ (l.take i).any (fun p => !inR p 0 1000) = false) 0 (by simp) (fun _ h => nomatch h) ⟨Nat.zero_le _, rfl⟩ ?_ ?_
    · simp [ForgetTo, EW, VW, BBq, BBs, BB, VBs, VB, Env.look, pubV]
    · rintro i ⟨hi, hx⟩ hn
      refine AWP.run (fun _ => false) tt_ok (fun _ h => nomatch h) (by simp) rfl ?_
      simp only [go_sem, Nat.reduceBEq, Nat.reduceEqDiff, Nat.reduceLT, Nat.reduceLeDiff, Nat.reduceAdd, Nat.reduceSub, Nat.reduceMul, reduceCtorEq, Int.reduceToNat, Int.reduceEq, Int.reduceLT, Int.reduceLE, Int.reduceNe, Int.reduceNeg , or_self, or_false, false_or , List.length_map]
      refine Br_split (fun hd => ?_) (fun hd => ?_) <;> simp only [go_sem, Nat.reduceBEq, Nat.reduceEqDiff, Nat.reduceLT, Nat.reduceLeDiff, Nat.reduceAdd, Nat.reduceSub, Nat.reduceMul, reduceCtorEq, Int.reduceToNat, Int.reduceEq, Int.reduceLT, Int.reduceLE, Int.reduceNe, Int.reduceNeg , or_self, or_false, false_or , List.length_map, hd]
      · have hlt : i < l.length := by simpa using hd
        have any1 : ∀ f : Int → Bool, (l.take (i + 1)).any f = ((l.take i).any f || f l[i]) := fun f => by
          rw [List.take_succ_eq_append_getElem hlt, List.any_append]; simp
        simp only [go_sem, Nat.reduceBEq, Nat.reduceEqDiff, Nat.reduceLT, Nat.reduceLeDiff, Nat.reduceAdd, Nat.reduceSub, Nat.reduceMul, reduceCtorEq, Int.reduceToNat, Int.reduceEq, Int.reduceLT, Int.reduceLE, Int.reduceNe, Int.reduceNeg , or_self, or_false, false_or , List.length_map, idx_nat, List.getElem?_map, List.getElem?_eq_getElem hlt]
        refine (c37 l[i] 0 1000).call rfl rfl rfl ?_
        simp only [go_sem, Nat.reduceBEq, Nat.reduceEqDiff, Nat.reduceLT, Nat.reduceLeDiff, Nat.reduceAdd, Nat.reduceSub, Nat.reduceMul, reduceCtorEq, Int.reduceToNat, Int.reduceEq, Int.reduceLT, Int.reduceLE, Int.reduceNe, Int.reduceNeg , or_self, or_false, false_or , List.length_map]
        refine Br_split (fun he => ?_) (fun he => ?_) <;> simp only [go_sem, Nat.reduceBEq, Nat.reduceEqDiff, Nat.reduceLT, Nat.reduceLeDiff, Nat.reduceAdd, Nat.reduceSub, Nat.reduceMul, reduceCtorEq, Int.reduceToNat, Int.reduceEq, Int.reduceLT, Int.reduceLE, Int.reduceNe, Int.reduceNeg , or_self, or_false, false_or , List.length_map, he]
        · have hb : l.any (fun p => !inR p 0 1000) = true := by
            rw [List.any_eq_true]
            exact ⟨l[i], List.getElem_mem hlt, he⟩
          simp [partsR, hin, hb]
        · have he' : (!inR l[i] 0 1000) = false := he
          have next : ∀ b : Bool, ((l.take i).any (fun p => decide (p > 0)) || decide (l[i] > 0)) = b → ∃ s', (s' ≤ l.length ∧ (l.take s').any (fun p => !inR p 0 1000) = false) ∧ l.length - s' < l.length - i ∧ s' = i + 1 ∧ (l.take s').any (fun p => decide (p > 0)) = b := fun b hb =>
            ⟨i + 1, ⟨hlt, by rw [any1, hx, he']; rfl⟩, by omega, rfl, by rw [any1]; exact hb⟩
          refine Br_split (fun hf => ?_) (fun hf => ?_) <;> simp only [go_sem, Nat.reduceBEq, Nat.reduceEqDiff, Nat.reduceLT, Nat.reduceLeDiff, Nat.reduceAdd, Nat.reduceSub, Nat.reduceMul, reduceCtorEq, Int.reduceToNat, Int.reduceEq, Int.reduceLT, Int.reduceLE, Int.reduceNe, Int.reduceNeg , or_self, or_false, false_or , List.length_map, he, hf, idx_nat, List.getElem?_map, List.getElem?_eq_getElem hlt]
          · obtain ⟨s', k1, k2, rfl, k3⟩ := next true (by simp [hf])
            refine ⟨i + 1, k1, k2, ?_⟩
            rw [k3]
            simp [ForgetTo, EW, VW, BBq, BBs, BB, VBs, VB, Env.look, pubV, w64 (n := (i : Int) + 1) (by omega) (by omega)]
          · obtain ⟨s', k1, k2, rfl, k3⟩ := next (decide (l[i] > 0)) (by rw [hf]; rfl)
            refine ⟨i + 1, k1, k2, ?_⟩
            rw [k3]
            simp [ForgetTo, EW, VW, BBq, BBs, BB, VBs, VB, Env.look, pubV, w64 (n := (i : Int) + 1) (by omega) (by omega)]
      · have hlt : ¬ i < l.length := by simpa using hd
        rw [List.take_of_length_le (by omega)] at hx ⊢
        refine Br_split (fun hf => ?_) (fun hf => ?_) <;> simp only [go_sem, Nat.reduceBEq, Nat.reduceEqDiff, Nat.reduceLT, Nat.reduceLeDiff, Nat.reduceAdd, Nat.reduceSub, Nat.reduceMul, reduceCtorEq, Int.reduceToNat, Int.reduceEq, Int.reduceLT, Int.reduceLE, Int.reduceNe, Int.reduceNeg , or_self, or_false, false_or , List.length_map, hf]
        · have : l.length > 6 := by simp at hf; omega
          simp [partsR, hin, hx, this]
        · have h6 : ¬ l.length > 6 := by simp at hf; omega
          refine Br_split (fun hg => ?_) (fun hg => ?_) <;> simp only [go_sem, Nat.reduceBEq, Nat.reduceEqDiff, Nat.reduceLT, Nat.reduceLeDiff, Nat.reduceAdd, Nat.reduceSub, Nat.reduceMul, reduceCtorEq, Int.reduceToNat, Int.reduceEq, Int.reduceLT, Int.reduceLE, Int.reduceNe, Int.reduceNeg , or_self, or_false, false_or , List.length_map, hg]
          · have hg' : (l.any fun p => decide (p > 0)) = false := by simpa using hg
            simp only [partsR, hin, hx, hg']; simp
          · have hg' : (l.any fun p => decide (p > 0)) = true := by
              cases hv : (l.any fun p => decide (p > 0)) with
              | true => rfl
              | false => rw [hv] at hg; cases hg
            simp only [partsR, hin, hx, hg']; simp [h6]
end Go.Aw
end

section
namespace Go.Aw
open Go Go.Proofs.Try

/-- An entry; what was made; a book. -/
structure Ent where
  day : Int
  goods : Int
  amount : Int
deriving DecidableEq

def Ent.d (s : Ent) : D := .agg [.int .i64 s.day, .int .i64 s.goods, .int .i64 s.amount]

structure Mad where
  day : Int
  kind : Int
  many : Int
deriving DecidableEq

def Mad.d (s : Mad) : D := .agg [.int .i64 s.day, .int .i64 s.kind, .int .i64 s.many]

def recD (r : List Sp) : D := .agg [.sl (r.map Sp.d)]

structure Book where
  stock : List Int
  ents : List Ent
  recs : List (List Sp)
  made : List Mad
deriving DecidableEq

def Book.d (b : Book) : D := .agg [.sl (b.stock.map (.int .i64)), .sl (b.ents.map Ent.d), .sl (b.recs.map recD), .sl (b.made.map Mad.d)]

/-- Lengths that memory has room for. -/
structure Book.Fits (b : Book) : Prop where
  stock : b.stock.length ≤ 4294967296
  ents : b.ents.length ≤ 4294967296
  recs : b.recs.length ≤ 4294967296
  made : b.made.length ≤ 4294967296
  takes : ∀ r ∈ b.recs, r.length ≤ 4294967296

theorem enc_ent : Enc 3 (Tt 103) Ent.d := fun x => ⟨rfl, rfl⟩
theorem enc_mad : Enc 3 (Tt 123) Mad.d := fun x => ⟨rfl, rfl⟩
theorem enc_rec : Enc 1 (Tt 100) recD := fun x => ⟨rfl, rfl⟩

def badEnt (goods : Int) (x : Ent) : Bool := !within 0 365 [x.day] || (!within 0 (IntKind.i64.wrap (goods - 1)) [x.goods] || (!within (-1000) 1000 [x.amount] || x.amount == 0))

@[go_sem] def bookV (b : Book) : List V := [.d (.sl (b.stock.map (.int .i64))), .d (.sl (b.ents.map Ent.d)), .d (.sl (b.recs.map recD)), .d (.sl (b.made.map Mad.d))]

/-- The blocks of Check. -/
@[go_sem] def checkH (b : Book) : Heap := [.cells (bookV b), .cells [.d (.int .i64 b.stock.length)], .cells [.fn (.func 58) [] []]]

theorem c56 {b : Book} {Q : V → Heap → Prop} (x : Ent) (h : Q (.d (.bool (badEnt b.stock.length x))) (checkH b)) : ACalls prog 56 [.d x.d, .ptr 1 0] (checkH b) Q := by
  refine ACalls.run (fun _ => false) tt_ok (fn := f56) (rs := [.tmp 3]) rfl rfl rfl rfl rfl rfl rfl ?_
  simp only [go_sem, Nat.reduceBEq, Nat.reduceEqDiff, Nat.reduceLT, Nat.reduceLeDiff, Nat.reduceAdd, Nat.reduceSub, Nat.reduceMul, reduceCtorEq, Int.reduceToNat, Int.reduceEq, Int.reduceLT, Int.reduceLE, Int.reduceNe, Int.reduceNeg , or_self, or_false, false_or , List.length_map, Ent.d]
  refine (c57 0 365 [x.day] (by simp)).call rfl rfl rfl ?_
  simp only [go_sem, Nat.reduceBEq, Nat.reduceEqDiff, Nat.reduceLT, Nat.reduceLeDiff, Nat.reduceAdd, Nat.reduceSub, Nat.reduceMul, reduceCtorEq, Int.reduceToNat, Int.reduceEq, Int.reduceLT, Int.reduceLE, Int.reduceNe, Int.reduceNeg , or_self, or_false, false_or , List.length_map]
  refine Br_split (fun hc => ?_) (fun hc => ?_) <;> simp only [go_sem, Nat.reduceBEq, Nat.reduceEqDiff, Nat.reduceLT, Nat.reduceLeDiff, Nat.reduceAdd, Nat.reduceSub, Nat.reduceMul, reduceCtorEq, Int.reduceToNat, Int.reduceEq, Int.reduceLT, Int.reduceLE, Int.reduceNe, Int.reduceNeg , or_self, or_false, false_or , List.length_map, hc]
  · simp only [badEnt, hc, Bool.true_or, Bool.false_or] at h; exact h
  · refine (c57 0 _ [x.goods] (by simp)).call rfl rfl rfl ?_
    simp only [go_sem, Nat.reduceBEq, Nat.reduceEqDiff, Nat.reduceLT, Nat.reduceLeDiff, Nat.reduceAdd, Nat.reduceSub, Nat.reduceMul, reduceCtorEq, Int.reduceToNat, Int.reduceEq, Int.reduceLT, Int.reduceLE, Int.reduceNe, Int.reduceNeg , or_self, or_false, false_or , List.length_map, hc]
    refine Br_split (fun hd => ?_) (fun hd => ?_) <;> simp only [go_sem, Nat.reduceBEq, Nat.reduceEqDiff, Nat.reduceLT, Nat.reduceLeDiff, Nat.reduceAdd, Nat.reduceSub, Nat.reduceMul, reduceCtorEq, Int.reduceToNat, Int.reduceEq, Int.reduceLT, Int.reduceLE, Int.reduceNe, Int.reduceNeg , or_self, or_false, false_or , List.length_map, hc, hd]
    · simp only [badEnt, hc, hd, Bool.true_or, Bool.false_or] at h; exact h
    · refine (c57 (-1000) 1000 [x.amount] (by simp)).call rfl rfl rfl ?_
      simp only [go_sem, Nat.reduceBEq, Nat.reduceEqDiff, Nat.reduceLT, Nat.reduceLeDiff, Nat.reduceAdd, Nat.reduceSub, Nat.reduceMul, reduceCtorEq, Int.reduceToNat, Int.reduceEq, Int.reduceLT, Int.reduceLE, Int.reduceNe, Int.reduceNeg , or_self, or_false, false_or , List.length_map, hc, hd]
      refine Br_split (fun he => ?_) (fun he => ?_) <;> simp only [go_sem, Nat.reduceBEq, Nat.reduceEqDiff, Nat.reduceLT, Nat.reduceLeDiff, Nat.reduceAdd, Nat.reduceSub, Nat.reduceMul, reduceCtorEq, Int.reduceToNat, Int.reduceEq, Int.reduceLT, Int.reduceLE, Int.reduceNe, Int.reduceNeg , or_self, or_false, false_or , List.length_map, hc, hd, he]
      · simp only [badEnt, hc, hd, he, Bool.true_or, Bool.false_or] at h; exact h
      · simp only [badEnt, hc, hd, he, Bool.true_or, Bool.false_or] at h; exact h

def badSpan (s : Sp) : Bool := !(within 0 50 [s.lo, s.hi] && decide (s.lo ≤ s.hi)) || decide (IntKind.i64.wrap (s.hi - s.lo) ≥ 8)

theorem c58 (s : Sp) : PC prog 58 [.d s.d] (.d (.bool (badSpan s))) := by
  refine PC.run (fun _ => false) tt_ok (fn := f58) (rs := [.tmp 2]) rfl rfl rfl rfl rfl rfl rfl ?_
  simp only [go_sem, Nat.reduceBEq, Nat.reduceEqDiff, Nat.reduceLT, Nat.reduceLeDiff, Nat.reduceAdd, Nat.reduceSub, Nat.reduceMul, reduceCtorEq, Int.reduceToNat, Int.reduceEq, Int.reduceLT, Int.reduceLE, Int.reduceNe, Int.reduceNeg , or_self, or_false, false_or , List.length_map, Sp.d]
  refine (c59 0 50 s).call rfl rfl rfl ?_
  simp only [go_sem, Nat.reduceBEq, Nat.reduceEqDiff, Nat.reduceLT, Nat.reduceLeDiff, Nat.reduceAdd, Nat.reduceSub, Nat.reduceMul, reduceCtorEq, Int.reduceToNat, Int.reduceEq, Int.reduceLT, Int.reduceLE, Int.reduceNe, Int.reduceNeg , or_self, or_false, false_or , List.length_map]
  refine Br_split (fun hc => ?_) (fun hc => ?_) <;> simp only [go_sem, Nat.reduceBEq, Nat.reduceEqDiff, Nat.reduceLT, Nat.reduceLeDiff, Nat.reduceAdd, Nat.reduceSub, Nat.reduceMul, reduceCtorEq, Int.reduceToNat, Int.reduceEq, Int.reduceLT, Int.reduceLE, Int.reduceNe, Int.reduceNeg , or_self, or_false, false_or , List.length_map, hc, badSpan, Bool.true_or, Bool.false_or]

theorem enc_spd : Enc 2 (Tt 40) Sp.d := enc_sp

def badRec (goods : Int) (r : List Sp) : Bool := !decide ((r.length : Int) = goods) || r.any badSpan

theorem c60 {b : Book} {Q : V → Heap → Prop} (r : List Sp) (hr : r.length ≤ 4294967296) (h : Q (.d (.bool (badRec b.stock.length r))) (checkH b)) : ACalls prog 60 [.d (recD r), .ptr 1 0, .ptr 2 0] (checkH b) Q := by
  refine ACalls.run (fun _ => false) tt_ok (fn := f60) (rs := [.tmp 4]) rfl rfl rfl rfl rfl rfl rfl ?_
  simp only [go_sem, Nat.reduceBEq, Nat.reduceEqDiff, Nat.reduceLT, Nat.reduceLeDiff, Nat.reduceAdd, Nat.reduceSub, Nat.reduceMul, reduceCtorEq, Int.reduceToNat, Int.reduceEq, Int.reduceLT, Int.reduceLE, Int.reduceNe, Int.reduceNeg , or_self, or_false, false_or , List.length_map, recD]
  refine Br_split (fun hc => ?_) (fun hc => ?_) <;> simp only [go_sem, Nat.reduceBEq, Nat.reduceEqDiff, Nat.reduceLT, Nat.reduceLeDiff, Nat.reduceAdd, Nat.reduceSub, Nat.reduceMul, reduceCtorEq, Int.reduceToNat, Int.reduceEq, Int.reduceLT, Int.reduceLE, Int.reduceNe, Int.reduceNeg , or_self, or_false, false_or , List.length_map, hc]
  · simp only [badRec, hc, Bool.true_or] at h; exact h
  · refine ACallV.of rfl (c61 enc_sp r hr 58 [] [] badSpan (fun x _ Q h => (c58 x).call rfl rfl rfl h) ?_)
    simp only [go_sem, Nat.reduceBEq, Nat.reduceEqDiff, Nat.reduceLT, Nat.reduceLeDiff, Nat.reduceAdd, Nat.reduceSub, Nat.reduceMul, reduceCtorEq, Int.reduceToNat, Int.reduceEq, Int.reduceLT, Int.reduceLE, Int.reduceNe, Int.reduceNeg , or_self, or_false, false_or , List.length_map, hc]
    simp only [badRec, hc, Bool.false_or] at h; exact h

def badMad (kinds : Int) (x : Mad) : Bool := !within 0 365 [x.day] || (!within 0 (IntKind.i64.wrap (kinds - 1)) [x.kind] || !within 1 100 [x.many])

theorem c62 {b : Book} {Q : V → Heap → Prop} (x : Mad) (h : Q (.d (.bool (badMad b.recs.length x))) (checkH b)) : ACalls prog 62 [.d x.d, .ptr 0 0] (checkH b) Q := by
  refine ACalls.run (fun _ => false) tt_ok (fn := f62) (rs := [.tmp 3]) rfl rfl rfl rfl rfl rfl rfl ?_
  simp only [go_sem, Nat.reduceBEq, Nat.reduceEqDiff, Nat.reduceLT, Nat.reduceLeDiff, Nat.reduceAdd, Nat.reduceSub, Nat.reduceMul, reduceCtorEq, Int.reduceToNat, Int.reduceEq, Int.reduceLT, Int.reduceLE, Int.reduceNe, Int.reduceNeg , or_self, or_false, false_or , List.length_map, Mad.d]
  refine (c57 0 365 [x.day] (by simp)).call rfl rfl rfl ?_
  simp only [go_sem, Nat.reduceBEq, Nat.reduceEqDiff, Nat.reduceLT, Nat.reduceLeDiff, Nat.reduceAdd, Nat.reduceSub, Nat.reduceMul, reduceCtorEq, Int.reduceToNat, Int.reduceEq, Int.reduceLT, Int.reduceLE, Int.reduceNe, Int.reduceNeg , or_self, or_false, false_or , List.length_map]
  refine Br_split (fun hc => ?_) (fun hc => ?_) <;> simp only [go_sem, Nat.reduceBEq, Nat.reduceEqDiff, Nat.reduceLT, Nat.reduceLeDiff, Nat.reduceAdd, Nat.reduceSub, Nat.reduceMul, reduceCtorEq, Int.reduceToNat, Int.reduceEq, Int.reduceLT, Int.reduceLE, Int.reduceNe, Int.reduceNeg , or_self, or_false, false_or , List.length_map, hc]
  · simp only [badMad, hc, Bool.true_or, Bool.false_or] at h; exact h
  · refine (c57 0 _ [x.kind] (by simp)).call rfl rfl rfl ?_
    simp only [go_sem, Nat.reduceBEq, Nat.reduceEqDiff, Nat.reduceLT, Nat.reduceLeDiff, Nat.reduceAdd, Nat.reduceSub, Nat.reduceMul, reduceCtorEq, Int.reduceToNat, Int.reduceEq, Int.reduceLT, Int.reduceLE, Int.reduceNe, Int.reduceNeg , or_self, or_false, false_or , List.length_map, hc]
    refine Br_split (fun hd => ?_) (fun hd => ?_) <;> simp only [go_sem, Nat.reduceBEq, Nat.reduceEqDiff, Nat.reduceLT, Nat.reduceLeDiff, Nat.reduceAdd, Nat.reduceSub, Nat.reduceMul, reduceCtorEq, Int.reduceToNat, Int.reduceEq, Int.reduceLT, Int.reduceLE, Int.reduceNe, Int.reduceNeg , or_self, or_false, false_or , List.length_map, hc, hd]
    · simp only [badMad, hc, hd, Bool.true_or, Bool.false_or] at h; exact h
    · refine (c57 1 100 [x.many] (by simp)).call rfl rfl rfl ?_
      simp only [go_sem, Nat.reduceBEq, Nat.reduceEqDiff, Nat.reduceLT, Nat.reduceLeDiff, Nat.reduceAdd, Nat.reduceSub, Nat.reduceMul, reduceCtorEq, Int.reduceToNat, Int.reduceEq, Int.reduceLT, Int.reduceLE, Int.reduceNe, Int.reduceNeg , or_self, or_false, false_or , List.length_map, hc, hd]
      simp only [badMad, hc, hd, Bool.true_or, Bool.false_or] at h; exact h

/-- The program's Check. -/
def checkP (b : Book) : Int :=
  if (!within 1 4 [(b.stock.length : Int)] || !within 0 10000 b.stock) = true then 4
  else if (decide (b.ents.length > 12) || (decide (b.recs.length > 3) || decide (b.made.length > 8))) = true then 5
  else if (b.ents.any (badEnt b.stock.length) || (b.recs.any (badRec b.stock.length) || b.made.any (badMad b.recs.length))) = true then 2
  else 0

theorem c16 (b : Book) (hb : b.Fits) : PC prog 16 [.d b.d] (.d (.int .i64 (checkP b))) := by
  have hs := hb.stock
  refine PC.run (fun _ => false) tt_ok (fn := f16) (rs := [.tmp 2]) rfl rfl rfl rfl rfl rfl rfl ?_
  simp only [go_sem, Nat.reduceBEq, Nat.reduceEqDiff, Nat.reduceLT, Nat.reduceLeDiff, Nat.reduceAdd, Nat.reduceSub, Nat.reduceMul, reduceCtorEq, Int.reduceToNat, Int.reduceEq, Int.reduceLT, Int.reduceLE, Int.reduceNe, Int.reduceNeg , or_self, or_false, false_or , List.length_map, Book.d]
  refine (c57 1 4 [(b.stock.length : Int)] (by simp)).call rfl rfl rfl ?_
  simp only [go_sem, Nat.reduceBEq, Nat.reduceEqDiff, Nat.reduceLT, Nat.reduceLeDiff, Nat.reduceAdd, Nat.reduceSub, Nat.reduceMul, reduceCtorEq, Int.reduceToNat, Int.reduceEq, Int.reduceLT, Int.reduceLE, Int.reduceNe, Int.reduceNeg , or_self, or_false, false_or , List.length_map]
  refine Br_split (fun h1 => ?_) (fun h1 => ?_) <;> simp only [go_sem, Nat.reduceBEq, Nat.reduceEqDiff, Nat.reduceLT, Nat.reduceLeDiff, Nat.reduceAdd, Nat.reduceSub, Nat.reduceMul, reduceCtorEq, Int.reduceToNat, Int.reduceEq, Int.reduceLT, Int.reduceLE, Int.reduceNe, Int.reduceNeg , or_self, or_false, false_or , List.length_map, h1]
  · simp [checkP, h1]
  refine (c57 0 10000 b.stock hs).call rfl rfl rfl ?_
  simp only [go_sem, Nat.reduceBEq, Nat.reduceEqDiff, Nat.reduceLT, Nat.reduceLeDiff, Nat.reduceAdd, Nat.reduceSub, Nat.reduceMul, reduceCtorEq, Int.reduceToNat, Int.reduceEq, Int.reduceLT, Int.reduceLE, Int.reduceNe, Int.reduceNeg , or_self, or_false, false_or , List.length_map]
  refine Br_split (fun h2 => ?_) (fun h2 => ?_) <;> simp only [go_sem, Nat.reduceBEq, Nat.reduceEqDiff, Nat.reduceLT, Nat.reduceLeDiff, Nat.reduceAdd, Nat.reduceSub, Nat.reduceMul, reduceCtorEq, Int.reduceToNat, Int.reduceEq, Int.reduceLT, Int.reduceLE, Int.reduceNe, Int.reduceNeg , or_self, or_false, false_or , List.length_map, h2]
  · simp [checkP, h1, h2]
  refine Br_split (fun h3 => ?_) (fun h3 => ?_) <;> simp only [go_sem, Nat.reduceBEq, Nat.reduceEqDiff, Nat.reduceLT, Nat.reduceLeDiff, Nat.reduceAdd, Nat.reduceSub, Nat.reduceMul, reduceCtorEq, Int.reduceToNat, Int.reduceEq, Int.reduceLT, Int.reduceLE, Int.reduceNe, Int.reduceNeg , or_self, or_false, false_or , List.length_map, h3]
  · have : b.ents.length > 12 := by simp at h3; omega
    simp [checkP, h1, h2, this]
  refine Br_split (fun h4 => ?_) (fun h4 => ?_) <;> simp only [go_sem, Nat.reduceBEq, Nat.reduceEqDiff, Nat.reduceLT, Nat.reduceLeDiff, Nat.reduceAdd, Nat.reduceSub, Nat.reduceMul, reduceCtorEq, Int.reduceToNat, Int.reduceEq, Int.reduceLT, Int.reduceLE, Int.reduceNe, Int.reduceNeg , or_self, or_false, false_or , List.length_map, h4]
  · have : b.recs.length > 3 := by simp at h4; omega
    simp [checkP, h1, h2, this]
  refine Br_split (fun h5 => ?_) (fun h5 => ?_) <;> simp only [go_sem, Nat.reduceBEq, Nat.reduceEqDiff, Nat.reduceLT, Nat.reduceLeDiff, Nat.reduceAdd, Nat.reduceSub, Nat.reduceMul, reduceCtorEq, Int.reduceToNat, Int.reduceEq, Int.reduceLT, Int.reduceLE, Int.reduceNe, Int.reduceNeg , or_self, or_false, false_or , List.length_map, h5]
  · have : b.made.length > 8 := by simp at h5; omega
    simp [checkP, h1, h2, this]
  have h3' : ¬ b.ents.length > 12 := by simp at h3; omega
  have h4' : ¬ b.recs.length > 3 := by simp at h4; omega
  have h5' : ¬ b.made.length > 8 := by simp at h5; omega
  refine ACallV.of rfl (c63 enc_ent b.ents hb.ents 56 [] [.ptr 1 0] (badEnt b.stock.length) (fun x _ Q h => ACallV.of rfl (c56 (b := b) x h)) ?_)
  simp only [go_sem, Nat.reduceBEq, Nat.reduceEqDiff, Nat.reduceLT, Nat.reduceLeDiff, Nat.reduceAdd, Nat.reduceSub, Nat.reduceMul, reduceCtorEq, Int.reduceToNat, Int.reduceEq, Int.reduceLT, Int.reduceLE, Int.reduceNe, Int.reduceNeg , or_self, or_false, false_or , List.length_map]
  refine Br_split (fun h6 => ?_) (fun h6 => ?_) <;> simp only [go_sem, Nat.reduceBEq, Nat.reduceEqDiff, Nat.reduceLT, Nat.reduceLeDiff, Nat.reduceAdd, Nat.reduceSub, Nat.reduceMul, reduceCtorEq, Int.reduceToNat, Int.reduceEq, Int.reduceLT, Int.reduceLE, Int.reduceNe, Int.reduceNeg , or_self, or_false, false_or , List.length_map, h6]
  · simp [checkP, h1, h2, h3', h4', h5', h6]
  refine ACallV.of rfl (c64 enc_rec b.recs hb.recs 60 [] [.ptr 1 0, .ptr 2 0] (badRec b.stock.length) (fun x hx Q h => ACallV.of rfl (c60 (b := b) x (hb.takes x hx) h)) ?_)
  simp only [go_sem, Nat.reduceBEq, Nat.reduceEqDiff, Nat.reduceLT, Nat.reduceLeDiff, Nat.reduceAdd, Nat.reduceSub, Nat.reduceMul, reduceCtorEq, Int.reduceToNat, Int.reduceEq, Int.reduceLT, Int.reduceLE, Int.reduceNe, Int.reduceNeg , or_self, or_false, false_or , List.length_map]
  refine Br_split (fun h7 => ?_) (fun h7 => ?_) <;> simp only [go_sem, Nat.reduceBEq, Nat.reduceEqDiff, Nat.reduceLT, Nat.reduceLeDiff, Nat.reduceAdd, Nat.reduceSub, Nat.reduceMul, reduceCtorEq, Int.reduceToNat, Int.reduceEq, Int.reduceLT, Int.reduceLE, Int.reduceNe, Int.reduceNeg , or_self, or_false, false_or , List.length_map, h7]
  · simp [checkP, h1, h2, h3', h4', h5', h6, h7]
  refine ACallV.of rfl (c65 enc_mad b.made hb.made 62 [] [.ptr 0 0] (badMad b.recs.length) (fun x _ Q h => ACallV.of rfl (c62 (b := b) x h)) ?_)
  simp only [go_sem, Nat.reduceBEq, Nat.reduceEqDiff, Nat.reduceLT, Nat.reduceLeDiff, Nat.reduceAdd, Nat.reduceSub, Nat.reduceMul, reduceCtorEq, Int.reduceToNat, Int.reduceEq, Int.reduceLT, Int.reduceLE, Int.reduceNe, Int.reduceNeg , or_self, or_false, false_or , List.length_map]
  refine Br_split (fun h8 => ?_) (fun h8 => ?_) <;> simp only [go_sem, Nat.reduceBEq, Nat.reduceEqDiff, Nat.reduceLT, Nat.reduceLeDiff, Nat.reduceAdd, Nat.reduceSub, Nat.reduceMul, reduceCtorEq, Int.reduceToNat, Int.reduceEq, Int.reduceLT, Int.reduceLE, Int.reduceNe, Int.reduceNeg , or_self, or_false, false_or , List.length_map, h8]
  · simp [checkP, h1, h2, h3', h4', h5', h6, h7, h8]
  · simp [checkP, h1, h2, h3', h4', h5', h6, h7, h8]
end Go.Aw
end

section
namespace Go.Aw
open Go Go.Proofs.Try

def badCount (s : Sp) : Bool := !(within 0 100000 [s.lo, s.hi] && decide (s.lo ≤ s.hi))

theorem c89 (s : Sp) : PC prog 89 [.d s.d] (.d (.bool (badCount s))) := by
  refine PC.run (fun _ => false) tt_ok (fn := f89) (rs := [.tmp 2]) rfl rfl rfl rfl rfl rfl rfl ?_
  simp only [go_sem, Nat.reduceBEq, Nat.reduceEqDiff, Nat.reduceLT, Nat.reduceLeDiff, Nat.reduceAdd, Nat.reduceSub, Nat.reduceMul, reduceCtorEq, Int.reduceToNat, Int.reduceEq, Int.reduceLT, Int.reduceLE, Int.reduceNe, Int.reduceNeg , or_self, or_false, false_or , List.length_map, Sp.d]
  refine (c59 0 100000 s).call rfl rfl rfl ?_
  simp only [go_sem, Nat.reduceBEq, Nat.reduceEqDiff, Nat.reduceLT, Nat.reduceLeDiff, Nat.reduceAdd, Nat.reduceSub, Nat.reduceMul, reduceCtorEq, Int.reduceToNat, Int.reduceEq, Int.reduceLT, Int.reduceLE, Int.reduceNe, Int.reduceNeg , or_self, or_false, false_or , List.length_map, badCount]

def Book.none : Book := ⟨[], [], [], []⟩

def badList (goods : Nat) (l : List Sp) : Bool := !decide ((l.length : Int) = goods) || l.any badCount

def openP (b : Book) (cs : List (List Sp)) : Book × Int :=
  if checkP b ≠ 0 then (Book.none, checkP b) else if cs.any (badList b.stock.length) = true then (Book.none, 3) else (b, 0)

theorem c66 (b : Book) (hb : b.Fits) (cs : List (List Sp)) (hc : cs.length ≤ 4294967296) (hcs : ∀ l ∈ cs, l.length ≤ 4294967296) : PC prog 66 [.d b.d, .d (lists cs)] (.tup [.d (openP b cs).1.d, .d (.int .i64 (openP b cs).2)]) := by
  refine PC.run (fun _ => false) tt_ok (fn := f66) (rs := [.cell 4 129, .tmp 5]) rfl rfl rfl rfl rfl rfl rfl ?_
  simp only [go_sem, Nat.reduceBEq, Nat.reduceEqDiff, Nat.reduceLT, Nat.reduceLeDiff, Nat.reduceAdd, Nat.reduceSub, Nat.reduceMul, reduceCtorEq, Int.reduceToNat, Int.reduceEq, Int.reduceLT, Int.reduceLE, Int.reduceNe, Int.reduceNeg , or_self, or_false, false_or , List.length_map, Book.d, lists]
  refine (c16 b hb).call rfl rfl rfl ?_
  simp only [go_sem, Nat.reduceBEq, Nat.reduceEqDiff, Nat.reduceLT, Nat.reduceLeDiff, Nat.reduceAdd, Nat.reduceSub, Nat.reduceMul, reduceCtorEq, Int.reduceToNat, Int.reduceEq, Int.reduceLT, Int.reduceLE, Int.reduceNe, Int.reduceNeg , or_self, or_false, false_or , List.length_map]
  refine Br_split (fun h1 => ?_) (fun h1 => ?_) <;> simp only [go_sem, Nat.reduceBEq, Nat.reduceEqDiff, Nat.reduceLT, Nat.reduceLeDiff, Nat.reduceAdd, Nat.reduceSub, Nat.reduceMul, reduceCtorEq, Int.reduceToNat, Int.reduceEq, Int.reduceLT, Int.reduceLE, Int.reduceNe, Int.reduceNeg , or_self, or_false, false_or , List.length_map, h1]
  · have : checkP b ≠ 0 := by simpa using h1
    simp [openP, this, Book.none, Book.d]
  have hk : checkP b = 0 := by simpa using h1
  refine ALoop.by (S := Nat) (fun i => [(17, .d (.int .i64 i)), (16, .d (.int .i64 cs.length)), (15, .d (lists cs)), (4, .ptr 1 0), (2, .ptr 0 0)]) (fun i => [.cells (bookV b), .cells [.d (.sl []), .d (.sl []), .d (.sl []), .d (.sl [])]]) (fun i => cs.length - i) (fun i => i ≤ cs.length ∧ (cs.take i).any (badList b.stock.length) = false) 0 (by simp) (fun _ h => nomatch h) ⟨Nat.zero_le _, rfl⟩ ?_ ?_
  · simp [ForgetTo, EW, VW, BBq, BBs, BB, VBs, VB, Env.look, pubV, lists, bookV]
  · rintro i ⟨hi, hx⟩ hn
    refine AWP.run (fun _ => false) tt_ok (fun _ h => nomatch h) (by simp) rfl ?_
    simp only [go_sem, Nat.reduceBEq, Nat.reduceEqDiff, Nat.reduceLT, Nat.reduceLeDiff, Nat.reduceAdd, Nat.reduceSub, Nat.reduceMul, reduceCtorEq, Int.reduceToNat, Int.reduceEq, Int.reduceLT, Int.reduceLE, Int.reduceNe, Int.reduceNeg , or_self, or_false, false_or , List.length_map, lists]
    refine Br_split (fun hd => ?_) (fun hd => ?_) <;> simp only [go_sem, Nat.reduceBEq, Nat.reduceEqDiff, Nat.reduceLT, Nat.reduceLeDiff, Nat.reduceAdd, Nat.reduceSub, Nat.reduceMul, reduceCtorEq, Int.reduceToNat, Int.reduceEq, Int.reduceLT, Int.reduceLE, Int.reduceNe, Int.reduceNeg , or_self, or_false, false_or , List.length_map, hd]
    · have hlt : i < cs.length := by simpa using hd
      simp only [go_sem, Nat.reduceBEq, Nat.reduceEqDiff, Nat.reduceLT, Nat.reduceLeDiff, Nat.reduceAdd, Nat.reduceSub, Nat.reduceMul, reduceCtorEq, Int.reduceToNat, Int.reduceEq, Int.reduceLT, Int.reduceLE, Int.reduceNe, Int.reduceNeg , or_self, or_false, false_or , List.length_map, idx_nat, List.getElem?_map, List.getElem?_eq_getElem hlt]
      have any1 : (cs.take (i + 1)).any (badList b.stock.length) = badList b.stock.length cs[i] := by
        rw [List.take_succ_eq_append_getElem hlt, List.any_append, hx]
        simp
      have stop : badList b.stock.length cs[i] = true → openP b cs = (Book.none, 3) := by
        intro hb
        have : cs.any (badList b.stock.length) = true := List.any_eq_true.2 ⟨cs[i], List.getElem_mem hlt, hb⟩
        simp [openP, hk, this]
      refine Br_split (fun he => ?_) (fun he => ?_) <;> simp only [go_sem, Nat.reduceBEq, Nat.reduceEqDiff, Nat.reduceLT, Nat.reduceLeDiff, Nat.reduceAdd, Nat.reduceSub, Nat.reduceMul, reduceCtorEq, Int.reduceToNat, Int.reduceEq, Int.reduceLT, Int.reduceLE, Int.reduceNe, Int.reduceNeg , or_self, or_false, false_or , List.length_map, he]
      · rw [stop (by simp only [badList, he, Bool.true_or])]
        simp [Book.none, Book.d]
      · refine ACallV.of rfl (c61 enc_sp cs[i] (hcs _ (List.getElem_mem hlt)) 89 [] [] badCount (fun x _ Q h => (c89 x).call rfl rfl rfl h) ?_)
        simp only [go_sem, Nat.reduceBEq, Nat.reduceEqDiff, Nat.reduceLT, Nat.reduceLeDiff, Nat.reduceAdd, Nat.reduceSub, Nat.reduceMul, reduceCtorEq, Int.reduceToNat, Int.reduceEq, Int.reduceLT, Int.reduceLE, Int.reduceNe, Int.reduceNeg , or_self, or_false, false_or , List.length_map, he]
        refine Br_split (fun hf => ?_) (fun hf => ?_) <;> simp only [go_sem, Nat.reduceBEq, Nat.reduceEqDiff, Nat.reduceLT, Nat.reduceLeDiff, Nat.reduceAdd, Nat.reduceSub, Nat.reduceMul, reduceCtorEq, Int.reduceToNat, Int.reduceEq, Int.reduceLT, Int.reduceLE, Int.reduceNe, Int.reduceNeg , or_self, or_false, false_or , List.length_map, he, hf]
        · rw [stop (by simp only [badList, he, hf, Bool.false_or])]
          simp [Book.none, Book.d]
        · refine ⟨i + 1, ⟨hlt, by rw [any1]; simp only [badList, he, hf, Bool.false_or]⟩, by omega, ?_⟩
          simp [ForgetTo, EW, VW, BBq, BBs, BB, VBs, VB, Env.look, pubV, w64 (n := (i : Int) + 1) (by omega) (by omega), lists, bookV]
    · have hlt : ¬ i < cs.length := by simpa using hd
      rw [List.take_of_length_le (by omega)] at hx
      simp [openP, hk, hx, Book.d, bookV]
end Go.Aw
end

section
namespace Go.Aw
open Go Go.Proofs.Try

structure Acct where
  sum : Int
  s0 : Int
  s1 : Int
  s2 : Int
  p0 : Sp
  p1 : Sp
  p2 : Sp
  kinds : Int
deriving DecidableEq

def Acct.cs (a : Acct) : List D := [.int .i64 a.sum, .int .i64 a.s0, .int .i64 a.s1, .int .i64 a.s2, .int .i64 a.p0.lo, .int .i64 a.p0.hi, .int .i64 a.p1.lo, .int .i64 a.p1.hi, .int .i64 a.p2.lo, .int .i64 a.p2.hi, .int .i64 a.kinds]
def Acct.d (a : Acct) : D := .agg a.cs
@[go_sem] def Acct.vs (a : Acct) : List V := [.d (.int .i64 a.sum), .d (.int .i64 a.s0), .d (.int .i64 a.s1), .d (.int .i64 a.s2), .d (.int .i64 a.p0.lo), .d (.int .i64 a.p0.hi), .d (.int .i64 a.p1.lo), .d (.int .i64 a.p1.hi), .d (.int .i64 a.p2.lo), .d (.int .i64 a.p2.hi), .d (.int .i64 a.kinds)]

def sumW (g : Nat) (day : Int) (n : Int) (x : Ent) : Int := if (decide (x.goods = g) && decide (x.day ≤ day)) = true then wr (n + x.amount) else n
def signW (day : Int) (k : Nat) (n : Int) (m : Mad) : Int := if (decide (m.day ≤ day) && decide (m.kind = k)) = true then wr (n + m.many) else n
def spanB (b : Book) (g k : Nat) : Sp := ((b.recs.getD k []).getD g ⟨0, 0⟩)

def acctW (b : Book) (g : Nat) (day : Int) : Acct :=
  ⟨b.ents.foldl (sumW g day) (b.stock.getD g 0), b.made.foldl (signW day 0) 0, b.made.foldl (signW day 1) 0, b.made.foldl (signW day 2) 0, spanB b g 0, spanB b g 1, spanB b g 2, b.recs.length⟩

/-- What the account's code leans on. -/
structure Book.Acc (b : Book) (g : Nat) : Prop where
  fits : b.Fits
  here : g < b.stock.length
  recs : b.recs.length ≤ 3
  takes : ∀ r ∈ b.recs, g < r.length
  kinds : ∀ m ∈ b.made, 0 ≤ m.kind ∧ m.kind < 3

def spanI (b : Book) (g i k : Nat) : Sp := if k < i then spanB b g k else ⟨0, 0⟩

@[go_sem] def accH (b : Book) (a : Acct) : Heap := [.cells (bookV b), .cells (Acct.mk 0 0 0 0 ⟨0, 0⟩ ⟨0, 0⟩ ⟨0, 0⟩ 0).vs, .cells a.vs]

theorem getD_eq {α : Type} {l : List α} {i : Nat} {d : α} (h : i < l.length) : l.getD i d = l[i] := by
  rw [List.getD_eq_getElem?_getD, List.getElem?_eq_getElem h]; rfl

theorem c90 (b : Book) (g : Nat) (day : Int) (h : b.Acc g) : PC prog 90 [.d b.d, .d (.int .i64 g), .d (.int .i64 day)] (.d (acctW b g day).d) := by
  have hg := h.here
  have hs := h.fits.stock
  have he := h.fits.ents
  have hm := h.fits.made
  have hr := h.fits.recs
  refine PC.run (fun _ => false) tt_ok (fn := f90) (rs := [.cell 6 136]) rfl rfl rfl rfl rfl rfl rfl ?_
  simp only [go_sem, Nat.reduceBEq, Nat.reduceEqDiff, Nat.reduceLT, Nat.reduceLeDiff, Nat.reduceAdd, Nat.reduceSub, Nat.reduceMul, reduceCtorEq, Int.reduceToNat, Int.reduceEq, Int.reduceLT, Int.reduceLE, Int.reduceNe, Int.reduceNeg , or_self, or_false, false_or , List.length_map, Book.d]
  refine ADrw.walk (fun _ => false) tt_ok (by kernel_rfl) (fun k => if k = 2 ∨ k = 8 then .L else if k = 11 then .A else if k = 12 then .W else .S) (by simp) (fun _ h => nomatch h) rfl (by kernel_rfl) ?_
  simp only [go_sem, Nat.reduceBEq, Nat.reduceEqDiff, Nat.reduceLT, Nat.reduceLeDiff, Nat.reduceAdd, Nat.reduceSub, Nat.reduceMul, reduceCtorEq, Int.reduceToNat, Int.reduceEq, Int.reduceLT, Int.reduceLE, Int.reduceNe, Int.reduceNeg , or_self, or_false, false_or , List.length_map, idx_nat, List.getElem?_map, List.getElem?_eq_getElem hg]
  refine ALoop.by (S := Nat) (fun i => [(29, .d (.int .i64 i)), (28, .d (.int .i64 b.ents.length)), (27, .d (.sl (b.ents.map Ent.d))), (7, .ptr 2 0), (6, .ptr 1 0), (3, .ptr 0 0), (1, .d (.int .i64 g)), (2, .d (.int .i64 day))])
    (fun i => accH b ⟨(b.ents.take i).foldl (sumW g day) (b.stock.getD g 0), 0, 0, 0, ⟨0, 0⟩, ⟨0, 0⟩, ⟨0, 0⟩, b.recs.length⟩) (fun i => b.ents.length - i) (fun i => i ≤ b.ents.length) 0 (by simp) (fun _ h => nomatch h) (Nat.zero_le _) ?_ ?_
  · simp [ForgetTo, EW, VW, BBq, BBs, BB, VBs, VB, Env.look, pubV, accH, bookV, Acct.vs, hg]
  · rintro i hi hn
    refine AWP.run (fun _ => false) tt_ok (fun _ h => nomatch h) (by simp) rfl ?_
    simp only [go_sem, Nat.reduceBEq, Nat.reduceEqDiff, Nat.reduceLT, Nat.reduceLeDiff, Nat.reduceAdd, Nat.reduceSub, Nat.reduceMul, reduceCtorEq, Int.reduceToNat, Int.reduceEq, Int.reduceLT, Int.reduceLE, Int.reduceNe, Int.reduceNeg , or_self, or_false, false_or , List.length_map]
    refine Br_split (fun hd => ?_) (fun hd => ?_) <;> simp only [go_sem, Nat.reduceBEq, Nat.reduceEqDiff, Nat.reduceLT, Nat.reduceLeDiff, Nat.reduceAdd, Nat.reduceSub, Nat.reduceMul, reduceCtorEq, Int.reduceToNat, Int.reduceEq, Int.reduceLT, Int.reduceLE, Int.reduceNe, Int.reduceNeg , or_self, or_false, false_or , List.length_map, hd]
    · have hlt : i < b.ents.length := by simpa using hd
      simp only [go_sem, Nat.reduceBEq, Nat.reduceEqDiff, Nat.reduceLT, Nat.reduceLeDiff, Nat.reduceAdd, Nat.reduceSub, Nat.reduceMul, reduceCtorEq, Int.reduceToNat, Int.reduceEq, Int.reduceLT, Int.reduceLE, Int.reduceNe, Int.reduceNeg , or_self, or_false, false_or , List.length_map, idx_nat, List.getElem?_map, List.getElem?_eq_getElem hlt, Ent.d]
      have next : ∀ n, sumW g day ((b.ents.take i).foldl (sumW g day) (b.stock.getD g 0)) b.ents[i] = n → (b.ents.take (i + 1)).foldl (sumW g day) (b.stock.getD g 0) = n := fun n hn => by rw [foldl_take _ _ hlt]; exact hn
      refine Br_split (fun h1 => ?_) (fun h1 => ?_) <;> simp only [go_sem, Nat.reduceBEq, Nat.reduceEqDiff, Nat.reduceLT, Nat.reduceLeDiff, Nat.reduceAdd, Nat.reduceSub, Nat.reduceMul, reduceCtorEq, Int.reduceToNat, Int.reduceEq, Int.reduceLT, Int.reduceLE, Int.reduceNe, Int.reduceNeg , or_self, or_false, false_or , List.length_map, h1]
      · refine Br_split (fun h2 => ?_) (fun h2 => ?_) <;> simp only [go_sem, Nat.reduceBEq, Nat.reduceEqDiff, Nat.reduceLT, Nat.reduceLeDiff, Nat.reduceAdd, Nat.reduceSub, Nat.reduceMul, reduceCtorEq, Int.reduceToNat, Int.reduceEq, Int.reduceLT, Int.reduceLE, Int.reduceNe, Int.reduceNeg , or_self, or_false, false_or , List.length_map, h1, h2]
        · refine ⟨i + 1, hlt, by omega, ?_⟩
          rw [next _ rfl]
          simp [ForgetTo, EW, VW, BBq, BBs, BB, VBs, VB, Env.look, pubV, accH, bookV, Acct.vs, w64 (n := (i : Int) + 1) (by omega) (by omega), sumW, h1, h2]
        · refine ⟨i + 1, hlt, by omega, ?_⟩
          rw [next _ rfl]
          simp [ForgetTo, EW, VW, BBq, BBs, BB, VBs, VB, Env.look, pubV, accH, bookV, Acct.vs, w64 (n := (i : Int) + 1) (by omega) (by omega), sumW, h1, h2]
      · refine ⟨i + 1, hlt, by omega, ?_⟩
        rw [next _ rfl]
        simp [ForgetTo, EW, VW, BBq, BBs, BB, VBs, VB, Env.look, pubV, accH, bookV, Acct.vs, w64 (n := (i : Int) + 1) (by omega) (by omega), sumW, h1]
    · have hlt : ¬ i < b.ents.length := by simpa using hd
      rw [List.take_of_length_le (by omega)]
      generalize hS : b.ents.foldl (sumW g day) (b.stock.getD g 0) = S
      refine ALoop.by (S := Nat) (fun i => [(54, .d (.int .i64 i)), (53, .d (.int .i64 b.recs.length)), (52, .d (.sl (b.recs.map recD))), (7, .ptr 2 0), (6, .ptr 1 0), (3, .ptr 0 0), (1, .d (.int .i64 g)), (2, .d (.int .i64 day))])
        (fun i => accH b ⟨S, 0, 0, 0, spanI b g i 0, spanI b g i 1, spanI b g i 2, b.recs.length⟩) (fun i => b.recs.length - i) (fun i => i ≤ b.recs.length) 0 (by simp) (fun _ h => nomatch h) (Nat.zero_le _) ?_ ?_
      · simp [ForgetTo, EW, VW, BBq, BBs, BB, VBs, VB, Env.look, pubV, accH, bookV, Acct.vs, spanI]
      · rintro i hi hn
        refine AWP.run (fun _ => false) tt_ok (fun _ h => nomatch h) (by simp) rfl ?_
        simp only [go_sem, Nat.reduceBEq, Nat.reduceEqDiff, Nat.reduceLT, Nat.reduceLeDiff, Nat.reduceAdd, Nat.reduceSub, Nat.reduceMul, reduceCtorEq, Int.reduceToNat, Int.reduceEq, Int.reduceLT, Int.reduceLE, Int.reduceNe, Int.reduceNeg , or_self, or_false, false_or , List.length_map]
        refine Br_split (fun hd => ?_) (fun hd => ?_) <;> simp only [go_sem, Nat.reduceBEq, Nat.reduceEqDiff, Nat.reduceLT, Nat.reduceLeDiff, Nat.reduceAdd, Nat.reduceSub, Nat.reduceMul, reduceCtorEq, Int.reduceToNat, Int.reduceEq, Int.reduceLT, Int.reduceLE, Int.reduceNe, Int.reduceNeg , or_self, or_false, false_or , List.length_map, hd]
        · have hlt : i < b.recs.length := by simpa using hd
          have hgr : g < b.recs[i].length := h.takes _ (List.getElem_mem hlt)
          have h3 : i = 0 ∨ i = 1 ∨ i = 2 := by have := h.recs; omega
          have hsp : spanB b g i = b.recs[i][g] := by simp only [spanB, getD_eq hlt, getD_eq hgr]
          rcases h3 with rfl | rfl | rfl
          · simp only [go_sem, Nat.reduceBEq, Nat.reduceEqDiff, Nat.reduceLT, Nat.reduceLeDiff, Nat.reduceAdd, Nat.reduceSub, Nat.reduceMul, reduceCtorEq, Int.reduceToNat, Int.reduceEq, Int.reduceLT, Int.reduceLE, Int.reduceNe, Int.reduceNeg , or_self, or_false, false_or , List.length_map, Int.ofNat_lt, Int.natCast_nonneg, Int.toNat_natCast, idx_nat, List.getElem?_map, List.getElem?_eq_getElem hlt, recD, List.getElem?_eq_getElem hgr, Sp.d]
            exact ⟨1, hlt, by omega, by simp [ForgetTo, EW, VW, BBq, BBs, BB, VBs, VB, Env.look, pubV, accH, bookV, Acct.vs, spanI, hsp, w64 (n := 1) (by omega) (by omega)]⟩
          · simp only [go_sem, Nat.reduceBEq, Nat.reduceEqDiff, Nat.reduceLT, Nat.reduceLeDiff, Nat.reduceAdd, Nat.reduceSub, Nat.reduceMul, reduceCtorEq, Int.reduceToNat, Int.reduceEq, Int.reduceLT, Int.reduceLE, Int.reduceNe, Int.reduceNeg , or_self, or_false, false_or , List.length_map, Int.ofNat_lt, Int.natCast_nonneg, Int.toNat_natCast, idx_nat, List.getElem?_map, List.getElem?_eq_getElem hlt, recD, List.getElem?_eq_getElem hgr, Sp.d]
            exact ⟨2, hlt, by omega, by simp [ForgetTo, EW, VW, BBq, BBs, BB, VBs, VB, Env.look, pubV, accH, bookV, Acct.vs, spanI, hsp, w64 (n := 2) (by omega) (by omega)]⟩
          · simp only [go_sem, Nat.reduceBEq, Nat.reduceEqDiff, Nat.reduceLT, Nat.reduceLeDiff, Nat.reduceAdd, Nat.reduceSub, Nat.reduceMul, reduceCtorEq, Int.reduceToNat, Int.reduceEq, Int.reduceLT, Int.reduceLE, Int.reduceNe, Int.reduceNeg , or_self, or_false, false_or , List.length_map, Int.ofNat_lt, Int.natCast_nonneg, Int.toNat_natCast, idx_nat, List.getElem?_map, List.getElem?_eq_getElem hlt, recD, List.getElem?_eq_getElem hgr, Sp.d]
            exact ⟨3, hlt, by omega, by simp [ForgetTo, EW, VW, BBq, BBs, BB, VBs, VB, Env.look, pubV, accH, bookV, Acct.vs, spanI, hsp, w64 (n := 3) (by omega) (by omega)]⟩
        · have hlt : ¬ i < b.recs.length := by simpa using hd
          have spn : ∀ k, spanI b g i k = spanB b g k := fun k => by
            unfold spanI
            split
            · rfl
            · have : b.recs.getD k [] = [] := by rw [List.getD_eq_getElem?_getD, List.getElem?_eq_none (by omega)]; rfl
              rw [spanB, this]; rfl
          rw [spn, spn, spn]
          refine ALoop.by (S := Nat) (fun i => [(72, .d (.int .i64 i)), (71, .d (.int .i64 b.made.length)), (70, .d (.sl (b.made.map Mad.d))), (7, .ptr 2 0), (6, .ptr 1 0), (3, .ptr 0 0), (1, .d (.int .i64 g)), (2, .d (.int .i64 day))])
            (fun i => accH b ⟨S, (b.made.take i).foldl (signW day 0) 0, (b.made.take i).foldl (signW day 1) 0, (b.made.take i).foldl (signW day 2) 0, spanB b g 0, spanB b g 1, spanB b g 2, b.recs.length⟩) (fun i => b.made.length - i) (fun i => i ≤ b.made.length) 0 (by simp) (fun _ h => nomatch h) (Nat.zero_le _) ?_ ?_
          · simp [ForgetTo, EW, VW, BBq, BBs, BB, VBs, VB, Env.look, pubV, accH, bookV, Acct.vs]
          · rintro i hi hn
            refine AWP.run (fun _ => false) tt_ok (fun _ h => nomatch h) (by simp) rfl ?_
            simp only [go_sem, Nat.reduceBEq, Nat.reduceEqDiff, Nat.reduceLT, Nat.reduceLeDiff, Nat.reduceAdd, Nat.reduceSub, Nat.reduceMul, reduceCtorEq, Int.reduceToNat, Int.reduceEq, Int.reduceLT, Int.reduceLE, Int.reduceNe, Int.reduceNeg , or_self, or_false, false_or , List.length_map]
            refine Br_split (fun hd => ?_) (fun hd => ?_) <;> simp only [go_sem, Nat.reduceBEq, Nat.reduceEqDiff, Nat.reduceLT, Nat.reduceLeDiff, Nat.reduceAdd, Nat.reduceSub, Nat.reduceMul, reduceCtorEq, Int.reduceToNat, Int.reduceEq, Int.reduceLT, Int.reduceLE, Int.reduceNe, Int.reduceNeg , or_self, or_false, false_or , List.length_map, hd]
            · have hlt : i < b.made.length := by simpa using hd
              simp only [go_sem, Nat.reduceBEq, Nat.reduceEqDiff, Nat.reduceLT, Nat.reduceLeDiff, Nat.reduceAdd, Nat.reduceSub, Nat.reduceMul, reduceCtorEq, Int.reduceToNat, Int.reduceEq, Int.reduceLT, Int.reduceLE, Int.reduceNe, Int.reduceNeg , or_self, or_false, false_or , List.length_map, idx_nat, List.getElem?_map, List.getElem?_eq_getElem hlt, Mad.d]
              obtain ⟨k0, k3⟩ := h.kinds _ (List.getElem_mem hlt)
              refine Br_split (fun h1 => ?_) (fun h1 => ?_) <;> simp only [go_sem, Nat.reduceBEq, Nat.reduceEqDiff, Nat.reduceLT, Nat.reduceLeDiff, Nat.reduceAdd, Nat.reduceSub, Nat.reduceMul, reduceCtorEq, Int.reduceToNat, Int.reduceEq, Int.reduceLT, Int.reduceLE, Int.reduceNe, Int.reduceNeg , or_self, or_false, false_or , List.length_map, h1]
              · have hk : b.made[i].kind = 0 ∨ b.made[i].kind = 1 ∨ b.made[i].kind = 2 := by omega
                rcases hk with hk | hk | hk
                · refine ADrw.walk (fun _ => false) tt_ok (by kernel_rfl) (fun k => if k = 1 ∨ k = 4 ∨ k = 6 then .L else if k = 10 then .W else .S) (by simp) (fun _ h => nomatch h) rfl (by kernel_rfl) ?_
                  simp only [go_sem, Nat.reduceBEq, Nat.reduceEqDiff, Nat.reduceLT, Nat.reduceLeDiff, Nat.reduceAdd, Nat.reduceSub, Nat.reduceMul, reduceCtorEq, Int.reduceToNat, Int.reduceEq, Int.reduceLT, Int.reduceLE, Int.reduceNe, Int.reduceNeg , or_self, or_false, false_or , List.length_map, hk, Int.cast_ofNat_Int]
                  refine ⟨i + 1, hlt, by omega, ?_⟩
                  rw [foldl_take _ _ hlt, foldl_take _ _ hlt, foldl_take _ _ hlt]
                  simp [ForgetTo, EW, VW, BBq, BBs, BB, VBs, VB, Env.look, pubV, accH, bookV, Acct.vs, signW, w64 (n := (i : Int) + 1) (by omega) (by omega), h1, hk]
                · refine ADrw.walk (fun _ => false) tt_ok (by kernel_rfl) (fun k => if k = 1 ∨ k = 4 ∨ k = 6 then .L else if k = 10 then .W else .S) (by simp) (fun _ h => nomatch h) rfl (by kernel_rfl) ?_
                  simp only [go_sem, Nat.reduceBEq, Nat.reduceEqDiff, Nat.reduceLT, Nat.reduceLeDiff, Nat.reduceAdd, Nat.reduceSub, Nat.reduceMul, reduceCtorEq, Int.reduceToNat, Int.reduceEq, Int.reduceLT, Int.reduceLE, Int.reduceNe, Int.reduceNeg , or_self, or_false, false_or , List.length_map, hk, Int.cast_ofNat_Int]
                  refine ⟨i + 1, hlt, by omega, ?_⟩
                  rw [foldl_take _ _ hlt, foldl_take _ _ hlt, foldl_take _ _ hlt]
                  simp [ForgetTo, EW, VW, BBq, BBs, BB, VBs, VB, Env.look, pubV, accH, bookV, Acct.vs, signW, w64 (n := (i : Int) + 1) (by omega) (by omega), h1, hk]
                · refine ADrw.walk (fun _ => false) tt_ok (by kernel_rfl) (fun k => if k = 1 ∨ k = 4 ∨ k = 6 then .L else if k = 10 then .W else .S) (by simp) (fun _ h => nomatch h) rfl (by kernel_rfl) ?_
                  simp only [go_sem, Nat.reduceBEq, Nat.reduceEqDiff, Nat.reduceLT, Nat.reduceLeDiff, Nat.reduceAdd, Nat.reduceSub, Nat.reduceMul, reduceCtorEq, Int.reduceToNat, Int.reduceEq, Int.reduceLT, Int.reduceLE, Int.reduceNe, Int.reduceNeg , or_self, or_false, false_or , List.length_map, hk, Int.cast_ofNat_Int]
                  refine ⟨i + 1, hlt, by omega, ?_⟩
                  rw [foldl_take _ _ hlt, foldl_take _ _ hlt, foldl_take _ _ hlt]
                  simp [ForgetTo, EW, VW, BBq, BBs, BB, VBs, VB, Env.look, pubV, accH, bookV, Acct.vs, signW, w64 (n := (i : Int) + 1) (by omega) (by omega), h1, hk]
              · refine ⟨i + 1, hlt, by omega, ?_⟩
                rw [foldl_take _ _ hlt, foldl_take _ _ hlt, foldl_take _ _ hlt]
                simp [ForgetTo, EW, VW, BBq, BBs, BB, VBs, VB, Env.look, pubV, accH, bookV, Acct.vs, signW, w64 (n := (i : Int) + 1) (by omega) (by omega), h1]
            · have hlt : ¬ i < b.made.length := by simpa using hd
              rw [List.take_of_length_le (by omega)]
              subst hS
              simp [Acct.d, Acct.cs, acctW]

def leftStep (n : Int) (p : Sp) (s : Sp) : Sp := ⟨wr (s.lo - wr (n * p.hi)), wr (s.hi - wr (n * p.lo))⟩

def left0 (a : Acct) : Sp := ⟨a.sum, a.sum⟩
def left1 (a : Acct) : Sp := leftStep a.s0 a.p0 (left0 a)
def left2 (a : Acct) : Sp := leftStep a.s1 a.p1 (left1 a)
def leftW (a : Acct) : Sp := leftStep a.s2 a.p2 (left2 a)
def leftI (a : Acct) : Nat → Sp
  | 0 => left0 a
  | 1 => left1 a
  | 2 => left2 a
  | _ => leftW a

theorem c68 (a : Acct) : PC prog 68 [.d a.d] (.d (leftW a).d) := by
  refine PC.run (fun _ => false) tt_ok (fn := f68) (rs := [.cell 2 40]) rfl rfl rfl rfl rfl rfl rfl ?_
  simp only [go_sem, Nat.reduceBEq, Nat.reduceEqDiff, Nat.reduceLT, Nat.reduceLeDiff, Nat.reduceAdd, Nat.reduceSub, Nat.reduceMul, reduceCtorEq, Int.reduceToNat, Int.reduceEq, Int.reduceLT, Int.reduceLE, Int.reduceNe, Int.reduceNeg , or_self, or_false, false_or , List.length_map, Acct.d, Acct.cs]
  refine ALoop.by (S := Nat) (fun i => [(13, .d (.int .i64 i)), (12, .d (.agg [.int .i64 a.s0, .int .i64 a.s1, .int .i64 a.s2])), (3, .ptr 2 0), (2, .ptr 1 0), (1, .ptr 0 0)])
    (fun i => [.cells a.vs, .cells [.d (.int .i64 0), .d (.int .i64 0)], .cells [.d (.int .i64 (leftI a i).lo), .d (.int .i64 (leftI a i).hi)]]) (fun i => 3 - i) (fun i => i ≤ 3) 0 (by simp) (fun _ h => nomatch h) (Nat.zero_le _) ?_ ?_
  · simp [ForgetTo, EW, VW, BBq, BBs, BB, VBs, VB, Env.look, pubV, Acct.vs, leftI, left0]
  · rintro i hi hn
    have hc : i = 0 ∨ i = 1 ∨ i = 2 ∨ i = 3 := by omega
    refine AWP.run (fun _ => false) tt_ok (fun _ h => nomatch h) (by simp) rfl ?_
    simp only [go_sem, Nat.reduceBEq, Nat.reduceEqDiff, Nat.reduceLT, Nat.reduceLeDiff, Nat.reduceAdd, Nat.reduceSub, Nat.reduceMul, reduceCtorEq, Int.reduceToNat, Int.reduceEq, Int.reduceLT, Int.reduceLE, Int.reduceNe, Int.reduceNeg , or_self, or_false, false_or , List.length_map]
    rcases hc with rfl | rfl | rfl | rfl
    · simp only [go_sem, Nat.reduceBEq, Nat.reduceEqDiff, Nat.reduceLT, Nat.reduceLeDiff, Nat.reduceAdd, Nat.reduceSub, Nat.reduceMul, reduceCtorEq, Int.reduceToNat, Int.reduceEq, Int.reduceLT, Int.reduceLE, Int.reduceNe, Int.reduceNeg , or_self, or_false, false_or , List.length_map, Int.cast_ofNat_Int]
      refine ADrw.walk (fun _ => false) tt_ok (by kernel_rfl) (fun k => if k = 1 ∨ k = 7 then .L else if k = 11 then .W else .S) (by simp) (fun _ h => nomatch h) rfl (by kernel_rfl) ?_
      simp only [go_sem, Nat.reduceBEq, Nat.reduceEqDiff, Nat.reduceLT, Nat.reduceLeDiff, Nat.reduceAdd, Nat.reduceSub, Nat.reduceMul, reduceCtorEq, Int.reduceToNat, Int.reduceEq, Int.reduceLT, Int.reduceLE, Int.reduceNe, Int.reduceNeg , or_self, or_false, false_or , List.length_map, Int.cast_ofNat_Int]
      refine ADrw.walk (fun _ => false) tt_ok (by kernel_rfl) (fun k => if k = 1 ∨ k = 7 then .L else if k = 11 then .W else .S) (by simp) (fun _ h => nomatch h) rfl (by kernel_rfl) ?_
      simp only [go_sem, Nat.reduceBEq, Nat.reduceEqDiff, Nat.reduceLT, Nat.reduceLeDiff, Nat.reduceAdd, Nat.reduceSub, Nat.reduceMul, reduceCtorEq, Int.reduceToNat, Int.reduceEq, Int.reduceLT, Int.reduceLE, Int.reduceNe, Int.reduceNeg , or_self, or_false, false_or , List.length_map, Int.cast_ofNat_Int]
      exact ⟨1, by omega, by omega, by simp [ForgetTo, EW, VW, BBq, BBs, BB, VBs, VB, Env.look, pubV, Acct.vs, leftI, leftStep, left1, left2, leftW, w64 (n := 1) (by omega) (by omega)]⟩

    · simp only [go_sem, Nat.reduceBEq, Nat.reduceEqDiff, Nat.reduceLT, Nat.reduceLeDiff, Nat.reduceAdd, Nat.reduceSub, Nat.reduceMul, reduceCtorEq, Int.reduceToNat, Int.reduceEq, Int.reduceLT, Int.reduceLE, Int.reduceNe, Int.reduceNeg , or_self, or_false, false_or , List.length_map, Int.cast_ofNat_Int]
      refine ADrw.walk (fun _ => false) tt_ok (by kernel_rfl) (fun k => if k = 1 ∨ k = 7 then .L else if k = 11 then .W else .S) (by simp) (fun _ h => nomatch h) rfl (by kernel_rfl) ?_
      simp only [go_sem, Nat.reduceBEq, Nat.reduceEqDiff, Nat.reduceLT, Nat.reduceLeDiff, Nat.reduceAdd, Nat.reduceSub, Nat.reduceMul, reduceCtorEq, Int.reduceToNat, Int.reduceEq, Int.reduceLT, Int.reduceLE, Int.reduceNe, Int.reduceNeg , or_self, or_false, false_or , List.length_map, Int.cast_ofNat_Int]
      refine ADrw.walk (fun _ => false) tt_ok (by kernel_rfl) (fun k => if k = 1 ∨ k = 7 then .L else if k = 11 then .W else .S) (by simp) (fun _ h => nomatch h) rfl (by kernel_rfl) ?_
      simp only [go_sem, Nat.reduceBEq, Nat.reduceEqDiff, Nat.reduceLT, Nat.reduceLeDiff, Nat.reduceAdd, Nat.reduceSub, Nat.reduceMul, reduceCtorEq, Int.reduceToNat, Int.reduceEq, Int.reduceLT, Int.reduceLE, Int.reduceNe, Int.reduceNeg , or_self, or_false, false_or , List.length_map, Int.cast_ofNat_Int]
      exact ⟨2, by omega, by omega, by simp [ForgetTo, EW, VW, BBq, BBs, BB, VBs, VB, Env.look, pubV, Acct.vs, leftI, leftStep, left1, left2, leftW, w64 (n := 2) (by omega) (by omega)]⟩

    · simp only [go_sem, Nat.reduceBEq, Nat.reduceEqDiff, Nat.reduceLT, Nat.reduceLeDiff, Nat.reduceAdd, Nat.reduceSub, Nat.reduceMul, reduceCtorEq, Int.reduceToNat, Int.reduceEq, Int.reduceLT, Int.reduceLE, Int.reduceNe, Int.reduceNeg , or_self, or_false, false_or , List.length_map, Int.cast_ofNat_Int]
      refine ADrw.walk (fun _ => false) tt_ok (by kernel_rfl) (fun k => if k = 1 ∨ k = 7 then .L else if k = 11 then .W else .S) (by simp) (fun _ h => nomatch h) rfl (by kernel_rfl) ?_
      simp only [go_sem, Nat.reduceBEq, Nat.reduceEqDiff, Nat.reduceLT, Nat.reduceLeDiff, Nat.reduceAdd, Nat.reduceSub, Nat.reduceMul, reduceCtorEq, Int.reduceToNat, Int.reduceEq, Int.reduceLT, Int.reduceLE, Int.reduceNe, Int.reduceNeg , or_self, or_false, false_or , List.length_map, Int.cast_ofNat_Int]
      refine ADrw.walk (fun _ => false) tt_ok (by kernel_rfl) (fun k => if k = 1 ∨ k = 7 then .L else if k = 11 then .W else .S) (by simp) (fun _ h => nomatch h) rfl (by kernel_rfl) ?_
      simp only [go_sem, Nat.reduceBEq, Nat.reduceEqDiff, Nat.reduceLT, Nat.reduceLeDiff, Nat.reduceAdd, Nat.reduceSub, Nat.reduceMul, reduceCtorEq, Int.reduceToNat, Int.reduceEq, Int.reduceLT, Int.reduceLE, Int.reduceNe, Int.reduceNeg , or_self, or_false, false_or , List.length_map, Int.cast_ofNat_Int]
      exact ⟨3, by omega, by omega, by simp [ForgetTo, EW, VW, BBq, BBs, BB, VBs, VB, Env.look, pubV, Acct.vs, leftI, leftStep, left1, left2, leftW, w64 (n := 3) (by omega) (by omega)]⟩
    · simp only [go_sem, Nat.reduceBEq, Nat.reduceEqDiff, Nat.reduceLT, Nat.reduceLeDiff, Nat.reduceAdd, Nat.reduceSub, Nat.reduceMul, reduceCtorEq, Int.reduceToNat, Int.reduceEq, Int.reduceLT, Int.reduceLE, Int.reduceNe, Int.reduceNeg , or_self, or_false, false_or , List.length_map, Int.cast_ofNat_Int]
      simp [leftI, Sp.d]

theorem c67 (b : Book) (g : Nat) (h : b.Acc g) : PC prog 67 [.d b.d, .d (.int .i64 g)] (.d (acctW b g 365).d) := by
  refine PC.run (fun _ => false) tt_ok (fn := f67) (rs := [.cell 4 136]) rfl rfl rfl rfl rfl rfl rfl ?_
  simp only [go_sem, Nat.reduceBEq, Nat.reduceEqDiff, Nat.reduceLT, Nat.reduceLeDiff, Nat.reduceAdd, Nat.reduceSub, Nat.reduceMul, reduceCtorEq, Int.reduceToNat, Int.reduceEq, Int.reduceLT, Int.reduceLE, Int.reduceNe, Int.reduceNeg , or_self, or_false, false_or , List.length_map, Book.d]
  refine (c90 b g 365 h).call rfl rfl rfl ?_
  simp only [go_sem, Nat.reduceBEq, Nat.reduceEqDiff, Nat.reduceLT, Nat.reduceLeDiff, Nat.reduceAdd, Nat.reduceSub, Nat.reduceMul, reduceCtorEq, Int.reduceToNat, Int.reduceEq, Int.reduceLT, Int.reduceLE, Int.reduceNe, Int.reduceNeg , or_self, or_false, false_or , List.length_map, Acct.d, Acct.cs]

/-- What the program's Left answers for a good book. -/
def leftsW (b : Book) : List Sp := (List.range b.stock.length).map fun g => leftW (acctW b g 365)

def leftP (b : Book) : List Sp × Int := if checkP b ≠ 0 then ([], checkP b) else (leftsW b, 0)

theorem map_range_succ {α : Type} (f : Nat → α) (i : Nat) : (List.range (i + 1)).map f = (List.range i).map f ++ [f i] := by
  rw [List.range_succ, List.map_append]; rfl

theorem c17 (b : Book) (hb : b.Fits) (hacc : checkP b = 0 → ∀ g, g < b.stock.length → b.Acc g) : PC prog 17 [.d b.d] (.tup [.d (.sl ((leftP b).1.map Sp.d)), .d (.int .i64 (leftP b).2)]) := by
  have hst := hb.stock
  refine PC.run (fun k => k == 2) tt_ok (fn := f17) (rs := [.tmp 2, .tmp 3]) rfl rfl rfl rfl rfl rfl rfl ?_
  simp only [go_sem, Nat.reduceBEq, Nat.reduceEqDiff, Nat.reduceLT, Nat.reduceLeDiff, Nat.reduceAdd, Nat.reduceSub, Nat.reduceMul, reduceCtorEq, Int.reduceToNat, Int.reduceEq, Int.reduceLT, Int.reduceLE, Int.reduceNe, Int.reduceNeg , or_self, or_false, false_or , List.length_map, Book.d]
  refine (c66 b hb [] (by simp) (by simp)).call rfl rfl rfl ?_
  by_cases hk : checkP b = 0
  · have ho : openP b [] = (b, 0) := by simp [openP, hk]
    have hl : leftP b = (leftsW b, 0) := by simp [leftP, hk]
    rw [hl]
    simp only [go_sem, Nat.reduceBEq, Nat.reduceEqDiff, Nat.reduceLT, Nat.reduceLeDiff, Nat.reduceAdd, Nat.reduceSub, Nat.reduceMul, reduceCtorEq, Int.reduceToNat, Int.reduceEq, Int.reduceLT, Int.reduceLE, Int.reduceNe, Int.reduceNeg , or_self, or_false, false_or , List.length_map, Book.d, ho]
    refine ALoop.by (S := Nat) (fun i => [(18, .d (.int .i64 i)), (17, .d (.int .i64 b.stock.length)), (2, .ref 1 i 0 i), (4, .ptr 2 0)])
      (fun i => [.cells (bookV b), .arr 2 (i == 0) (((List.range i).map fun g => leftW (acctW b g 365)).map Sp.d), .cells (bookV b)]) (fun i => b.stock.length - i) (fun i => i ≤ b.stock.length) 0 (by simp) (fun _ h => nomatch h) (Nat.zero_le _) ?_ ?_
    · simp [ForgetTo, EW, VW, BBq, BBs, BB, VBs, VB, Env.look, pubV, bookV]
    · rintro i hi hn
      have hle : i + 1 ≤ 4294967296 ∨ ¬ i < b.stock.length := by omega
      refine AWP.run (fun k => k == 2) tt_ok (fun _ h => nomatch h) (by simp) rfl ?_
      simp only [go_sem, Nat.reduceBEq, Nat.reduceEqDiff, Nat.reduceLT, Nat.reduceLeDiff, Nat.reduceAdd, Nat.reduceSub, Nat.reduceMul, reduceCtorEq, Int.reduceToNat, Int.reduceEq, Int.reduceLT, Int.reduceLE, Int.reduceNe, Int.reduceNeg , or_self, or_false, false_or , List.length_map]
      refine Br_split (fun hd => ?_) (fun hd => ?_) <;> simp only [go_sem, Nat.reduceBEq, Nat.reduceEqDiff, Nat.reduceLT, Nat.reduceLeDiff, Nat.reduceAdd, Nat.reduceSub, Nat.reduceMul, reduceCtorEq, Int.reduceToNat, Int.reduceEq, Int.reduceLT, Int.reduceLE, Int.reduceNe, Int.reduceNeg , or_self, or_false, false_or , List.length_map, hd]
      · have hlt : i < b.stock.length := by simpa using hd
        have hle : i + 1 ≤ 4294967296 := by omega
        refine (c67 b i (hacc hk i hlt)).call rfl rfl rfl ?_
        simp only [go_sem, Nat.reduceBEq, Nat.reduceEqDiff, Nat.reduceLT, Nat.reduceLeDiff, Nat.reduceAdd, Nat.reduceSub, Nat.reduceMul, reduceCtorEq, Int.reduceToNat, Int.reduceEq, Int.reduceLT, Int.reduceLE, Int.reduceNe, Int.reduceNeg , or_self, or_false, false_or , List.length_map]
        refine (c68 (acctW b i 365)).call rfl rfl rfl ?_
        simp only [go_sem, Nat.reduceBEq, Nat.reduceEqDiff, Nat.reduceLT, Nat.reduceLeDiff, Nat.reduceAdd, Nat.reduceSub, Nat.reduceMul, reduceCtorEq, Int.reduceToNat, Int.reduceEq, Int.reduceLT, Int.reduceLE, Int.reduceNe, Int.reduceNeg , or_self, or_false, false_or , List.length_map, List.length_range, hle, Sp.d]
        refine ⟨i + 1, hlt, by omega, ?_⟩
        rw [map_range_succ]
        simp [ForgetTo, EW, VW, BBq, BBs, BB, VBs, VB, Env.look, pubV, bookV, w64 (n := (i : Int) + 1) (by omega) (by omega), Sp.d]
      · have hlt : ¬ i < b.stock.length := by simpa using hd
        have : i = b.stock.length := by omega
        subst this
        have ht : ∀ l : List D, l.length = b.stock.length → l.take b.stock.length = l := fun l hl => List.take_of_length_le (by omega)
        simp only [go_sem, Nat.reduceBEq, Nat.reduceEqDiff, Nat.reduceLT, Nat.reduceLeDiff, Nat.reduceAdd, Nat.reduceSub, Nat.reduceMul, reduceCtorEq, Int.reduceToNat, Int.reduceEq, Int.reduceLT, Int.reduceLE, Int.reduceNe, Int.reduceNeg , or_self, or_false, false_or , List.length_map, List.length_range, ht, leftsW]
  · have ho : openP b [] = (Book.none, checkP b) := by simp [openP, hk]
    have hl : leftP b = ([], checkP b) := by simp [leftP, hk]
    rw [hl]
    simp only [go_sem, Nat.reduceBEq, Nat.reduceEqDiff, Nat.reduceLT, Nat.reduceLeDiff, Nat.reduceAdd, Nat.reduceSub, Nat.reduceMul, reduceCtorEq, Int.reduceToNat, Int.reduceEq, Int.reduceLT, Int.reduceLE, Int.reduceNe, Int.reduceNeg , or_self, or_false, false_or , List.length_map, Book.d, ho, hk]
end Go.Aw
end

section
namespace Go.Aw
open Go Go.Proofs.Try

def missOne (b : Book) (g : Nat) (c : Sp) : Sp := ⟨wr ((leftW (acctW b g 365)).lo - c.hi), wr ((leftW (acctW b g 365)).hi - c.lo)⟩

def missW (b : Book) (cs : List Sp) : List Sp := cs.mapIdx fun g c => missOne b g c

def missP (b : Book) (cs : List Sp) : List Sp × Int := if (openP b [cs]).2 ≠ 0 then ([], (openP b [cs]).2) else (missW b cs, 0)

theorem mapIdx_take_succ {α β : Type} (f : Nat → α → β) {l : List α} {i : Nat} (h : i < l.length) : (l.take (i + 1)).mapIdx f = (l.take i).mapIdx f ++ [f i l[i]] := by
  rw [List.take_succ_eq_append_getElem h, List.mapIdx_append]
  simp [Nat.min_eq_left (Nat.le_of_lt h)]

theorem openP_ok {b : Book} {cs : List Sp} (h : (openP b [cs]).2 = 0) : checkP b = 0 ∧ cs.length = b.stock.length ∧ openP b [cs] = (b, 0) := by
  unfold openP at h ⊢
  split
  · rename_i h1; rw [if_pos h1] at h; exact absurd h h1
  · rename_i h1
    rw [if_neg h1] at h
    have h1' : checkP b = 0 := by omega
    split
    · rename_i h2; rw [if_pos h2] at h; simp at h
    · rename_i h2
      refine ⟨h1', ?_, rfl⟩
      simp [badList] at h2
      omega

theorem c18 (b : Book) (cs : List Sp) (hb : b.Fits) (hc : cs.length ≤ 4294967296) (hacc : checkP b = 0 → ∀ g, g < b.stock.length → b.Acc g) : PC prog 18 [.d b.d, .d (.sl (cs.map Sp.d))] (.tup [.d (.sl ((missP b cs).1.map Sp.d)), .d (.int .i64 (missP b cs).2)]) := by
  have hst := hb.stock
  refine PC.run (fun k => k == 4) tt_ok (fn := f18) (rs := [.tmp 4, .tmp 5]) rfl rfl rfl rfl rfl rfl rfl ?_
  simp only [go_sem, Nat.reduceBEq, Nat.reduceEqDiff, Nat.reduceLT, Nat.reduceLeDiff, Nat.reduceAdd, Nat.reduceSub, Nat.reduceMul, reduceCtorEq, Int.reduceToNat, Int.reduceEq, Int.reduceLT, Int.reduceLE, Int.reduceNe, Int.reduceNeg , or_self, or_false, false_or , List.length_map, Book.d]
  refine (c66 b hb [cs] (by simp) (by simpa using hc)).call rfl rfl rfl ?_
  by_cases hk : (openP b [cs]).2 = 0
  · obtain ⟨h0, h1, h2⟩ := openP_ok hk
    have hl : missP b cs = (missW b cs, 0) := by simp [missP, hk]
    rw [hl]
    simp only [go_sem, Nat.reduceBEq, Nat.reduceEqDiff, Nat.reduceLT, Nat.reduceLeDiff, Nat.reduceAdd, Nat.reduceSub, Nat.reduceMul, reduceCtorEq, Int.reduceToNat, Int.reduceEq, Int.reduceLT, Int.reduceLE, Int.reduceNe, Int.reduceNeg , or_self, or_false, false_or , List.length_map, Book.d, h2]
    refine ALoop.by (S := Nat) (fun i => [(22, .d (.int .i64 i)), (21, .d (.int .i64 cs.length)), (20, .d (.sl (cs.map Sp.d))), (4, .ref 1 i 0 i), (6, .ptr 2 0)])
      (fun i => [.cells (bookV b), .arr 2 (i == 0) (((cs.take i).mapIdx fun g c => missOne b g c).map Sp.d), .cells (bookV b)]) (fun i => cs.length - i) (fun i => i ≤ cs.length) 0 (by simp) (fun _ h => nomatch h) (Nat.zero_le _) ?_ ?_
    · simp [ForgetTo, EW, VW, BBq, BBs, BB, VBs, VB, Env.look, pubV, bookV]
    · rintro i hi hn
      refine AWP.run (fun k => k == 4) tt_ok (fun _ h => nomatch h) (by simp) rfl ?_
      simp only [go_sem, Nat.reduceBEq, Nat.reduceEqDiff, Nat.reduceLT, Nat.reduceLeDiff, Nat.reduceAdd, Nat.reduceSub, Nat.reduceMul, reduceCtorEq, Int.reduceToNat, Int.reduceEq, Int.reduceLT, Int.reduceLE, Int.reduceNe, Int.reduceNeg , or_self, or_false, false_or , List.length_map]
      refine Br_split (fun hd => ?_) (fun hd => ?_) <;> simp only [go_sem, Nat.reduceBEq, Nat.reduceEqDiff, Nat.reduceLT, Nat.reduceLeDiff, Nat.reduceAdd, Nat.reduceSub, Nat.reduceMul, reduceCtorEq, Int.reduceToNat, Int.reduceEq, Int.reduceLT, Int.reduceLE, Int.reduceNe, Int.reduceNeg , or_self, or_false, false_or , List.length_map, hd]
      · have hlt : i < cs.length := by simpa using hd
        have hle : i + 1 ≤ 4294967296 := by omega
        simp only [go_sem, Nat.reduceBEq, Nat.reduceEqDiff, Nat.reduceLT, Nat.reduceLeDiff, Nat.reduceAdd, Nat.reduceSub, Nat.reduceMul, reduceCtorEq, Int.reduceToNat, Int.reduceEq, Int.reduceLT, Int.reduceLE, Int.reduceNe, Int.reduceNeg , or_self, or_false, false_or , List.length_map, idx_nat, List.getElem?_map, List.getElem?_eq_getElem hlt, Sp.d]
        refine (c67 b i (hacc h0 i (by omega))).call rfl rfl rfl ?_
        simp only [go_sem, Nat.reduceBEq, Nat.reduceEqDiff, Nat.reduceLT, Nat.reduceLeDiff, Nat.reduceAdd, Nat.reduceSub, Nat.reduceMul, reduceCtorEq, Int.reduceToNat, Int.reduceEq, Int.reduceLT, Int.reduceLE, Int.reduceNe, Int.reduceNeg , or_self, or_false, false_or , List.length_map]
        refine (c68 (acctW b i 365)).call rfl rfl rfl ?_
        simp only [go_sem, Nat.reduceBEq, Nat.reduceEqDiff, Nat.reduceLT, Nat.reduceLeDiff, Nat.reduceAdd, Nat.reduceSub, Nat.reduceMul, reduceCtorEq, Int.reduceToNat, Int.reduceEq, Int.reduceLT, Int.reduceLE, Int.reduceNe, Int.reduceNeg , or_self, or_false, false_or , List.length_map, List.length_mapIdx, List.length_take, Nat.min_eq_left hi, hle, Sp.d]
        refine ⟨i + 1, hlt, by omega, ?_⟩
        rw [mapIdx_take_succ _ hlt]
        simp [ForgetTo, EW, VW, BBq, BBs, BB, VBs, VB, Env.look, pubV, bookV, w64 (n := (i : Int) + 1) (by omega) (by omega), Sp.d, missOne]
      · have hlt : ¬ i < cs.length := by simpa using hd
        have : i = cs.length := by omega
        subst this
        have ht : ∀ l : List D, l.length = cs.length → l.take cs.length = l := fun l hl => List.take_of_length_le (by omega)
        simp only [go_sem, Nat.reduceBEq, Nat.reduceEqDiff, Nat.reduceLT, Nat.reduceLeDiff, Nat.reduceAdd, Nat.reduceSub, Nat.reduceMul, reduceCtorEq, Int.reduceToNat, Int.reduceEq, Int.reduceLT, Int.reduceLE, Int.reduceNe, Int.reduceNeg , or_self, or_false, false_or , List.length_map, List.length_mapIdx, List.length_take, Nat.min_self, List.take_length, ht, missW]
  · have hl : missP b cs = ([], (openP b [cs]).2) := by simp [missP, hk]
    rw [hl]
    simp only [go_sem, Nat.reduceBEq, Nat.reduceEqDiff, Nat.reduceLT, Nat.reduceLeDiff, Nat.reduceAdd, Nat.reduceSub, Nat.reduceMul, reduceCtorEq, Int.reduceToNat, Int.reduceEq, Int.reduceLT, Int.reduceLE, Int.reduceNe, Int.reduceNeg , or_self, or_false, false_or , List.length_map, Book.d, hk]
end Go.Aw
end

section
namespace Go.Aw
open Go Go.Proofs.Try

def bookC (b : Book) : List D := [.sl (b.stock.map (.int .i64)), .sl (b.ents.map Ent.d), .sl (b.recs.map recD), .sl (b.made.map Mad.d)]

def daysV (b : Book) (g : Nat) : V := .fn (.func 92) [] [.pp (bookC b), .pp [.int .i64 g]]

theorem c77 (b : Book) (g : Nat) : PC prog 77 [.d b.d, .d (.int .i64 g)] (daysV b g) := by
  refine PC.run (fun _ => false) tt_ok (fn := f77) (rs := [.tmp 4]) rfl rfl rfl rfl rfl rfl rfl ?_
  simp only [go_sem, Nat.reduceBEq, Nat.reduceEqDiff, Nat.reduceLT, Nat.reduceLeDiff, Nat.reduceAdd, Nat.reduceSub, Nat.reduceMul, reduceCtorEq, Int.reduceToNat, Int.reduceEq, Int.reduceLT, Int.reduceLE, Int.reduceNe, Int.reduceNeg , or_self, or_false, false_or , List.length_map, Book.d, daysV, bookC]

def dayItem (b : Book) (g : Nat) (d : Nat) : List V := [.d (.int .i64 d), .d (leftW (acctW b g d)).d]

def dayItems (b : Book) (g : Nat) : List (List V) := (List.range 366).map (dayItem b g)

theorem map_range_drop {α : Type} (f : Nat → α) {i n : Nat} (h : i < n) : ((List.range n).map f).drop i = f i :: ((List.range n).map f).drop (i + 1) := by
  rw [List.drop_eq_getElem_cons (by simpa using h)]
  simp

theorem dayItems_drop (b : Book) (g : Nat) {i : Nat} (h : i < 366) : (dayItems b g).drop i = dayItem b g i :: (dayItems b g).drop (i + 1) := map_range_drop _ h

theorem dayItems_end (b : Book) (g : Nat) : (dayItems b g).drop 366 = [] := List.drop_eq_nil_of_le (by simp [dayItems])

set_option maxRecDepth 3000 in
theorem c92 (b : Book) (g : Nat) (h : b.Acc g) : Iter prog (daysV b g) (dayItems b g) := by
  intro yv n I Q _ hyv hI hy hend H hH
  refine ACallV.of rfl ?_
  refine ACalls.run (fun _ => false) tt_ok (fn := f92) (rs := []) rfl rfl rfl rfl rfl rfl rfl ?_
  simp only [go_sem, Nat.reduceBEq, Nat.reduceEqDiff, Nat.reduceLT, Nat.reduceLeDiff, Nat.reduceAdd, Nat.reduceSub, Nat.reduceMul, reduceCtorEq, Int.reduceToNat, Int.reduceEq, Int.reduceLT, Int.reduceLE, Int.reduceNe, Int.reduceNeg , or_self, or_false, false_or , List.length_map, bookC]
  have hHl := (hI _ _ hH).1
  refine ALoop.by (S := Nat × Heap) (fun s => [(5, .d (.int .i64 s.1)), (0, yv), (1, .pp (bookC b)), (2, .pp [.int .i64 g])]) (fun s => s.2) (fun s => 366 - s.1) (fun s => s.1 ≤ 366 ∧ I ((dayItems b g).drop s.1) s.2) (0, H) (Nat.le_refl _) (fun _ h => nomatch h) ⟨by simp, hH⟩ ?_ ?_
  · exact ForgetTo.same (Nat.le_refl _) (by simp [EWe, Env.look, bookC])
  · rintro ⟨i, Hs⟩ ⟨hi, hg⟩ hn
    simp only at hi hg hn ⊢
    have hHs := (hI _ _ hg).1
    refine AWP.run (fun _ => false) tt_ok (fun _ h => nomatch h) hn rfl ?_
    simp only [go_sem, Nat.reduceBEq, Nat.reduceEqDiff, Nat.reduceLT, Nat.reduceLeDiff, Nat.reduceAdd, Nat.reduceSub, Nat.reduceMul, reduceCtorEq, Int.reduceToNat, Int.reduceEq, Int.reduceLT, Int.reduceLE, Int.reduceNe, Int.reduceNeg , or_self, or_false, false_or , List.length_map, bookC]
    refine Br_split (fun hd => ?_) (fun hd => ?_) <;> simp only [go_sem, Nat.reduceBEq, Nat.reduceEqDiff, Nat.reduceLT, Nat.reduceLeDiff, Nat.reduceAdd, Nat.reduceSub, Nat.reduceMul, reduceCtorEq, Int.reduceToNat, Int.reduceEq, Int.reduceLT, Int.reduceLE, Int.reduceNe, Int.reduceNeg , or_self, or_false, false_or , List.length_map, hd]
    · have hlt : i < 366 := by simp at hd; omega
      refine (c90 b g i h).call rfl rfl rfl ?_
      simp only [go_sem, Nat.reduceBEq, Nat.reduceEqDiff, Nat.reduceLT, Nat.reduceLeDiff, Nat.reduceAdd, Nat.reduceSub, Nat.reduceMul, reduceCtorEq, Int.reduceToNat, Int.reduceEq, Int.reduceLT, Int.reduceLE, Int.reduceNe, Int.reduceNeg , or_self, or_false, false_or , List.length_map]
      refine (c68 (acctW b g i)).call rfl rfl rfl ?_
      simp only [go_sem, Nat.reduceBEq, Nat.reduceEqDiff, Nat.reduceLT, Nat.reduceLeDiff, Nat.reduceAdd, Nat.reduceSub, Nat.reduceMul, reduceCtorEq, Int.reduceToNat, Int.reduceEq, Int.reduceLT, Int.reduceLE, Int.reduceNe, Int.reduceNeg , or_self, or_false, false_or , List.length_map]
      rw [dayItems_drop b g hlt] at hg
      refine (hy _ _ _ hg).mono ?_
      rintro v H' (⟨rfl, hg'⟩ | ⟨rfl, hl', hb', hq⟩)
      · simp only [go_sem, Nat.reduceBEq, Nat.reduceEqDiff, Nat.reduceLT, Nat.reduceLeDiff, Nat.reduceAdd, Nat.reduceSub, Nat.reduceMul, reduceCtorEq, Int.reduceToNat, Int.reduceEq, Int.reduceLT, Int.reduceLE, Int.reduceNe, Int.reduceNeg , or_self, or_false, false_or , List.length_map]
        refine ⟨(i + 1, H'), ⟨hlt, hg'⟩, by simp only; omega, ?_⟩
        have := (hI _ _ hg').1
        exact ForgetTo.same (by omega) (by simp [EWe, Env.look, bookC, w64 (n := (i : Int) + 1) (by omega) (by omega)])
      · simp only [go_sem, Nat.reduceBEq, Nat.reduceEqDiff, Nat.reduceLT, Nat.reduceLeDiff, Nat.reduceAdd, Nat.reduceSub, Nat.reduceMul, reduceCtorEq, Int.reduceToNat, Int.reduceEq, Int.reduceLT, Int.reduceLE, Int.reduceNe, Int.reduceNeg , or_self, or_false, false_or , List.length_map]
        rw [List.take_of_length_le (by omega)]
        exact ⟨by omega, hq⟩
    · have hlt : i = 366 := by simp at hd; omega
      subst hlt
      rw [dayItems_end] at hg
      rw [List.take_of_length_le (by omega)]
      exact ⟨by omega, hend _ hg⟩

/-- Day by day: the first day on which it can be below 0, till it surely is. -/
def lowF (f : Nat → Sp) : Nat → Nat → Int → Int × Int
  | 0, _, p => (-1, p)
  | k + 1, d, p =>
    if (f d).hi < 0 then ((d : Int), if (f d).lo < 0 ∧ p = -1 then (d : Int) else p) else lowF f k (d + 1) (if (f d).lo < 0 ∧ p = -1 then (d : Int) else p)

def lowW (b : Book) (g : Nat) : Int × Int := lowF (fun d => leftW (acctW b g d)) 366 0 (-1)

def lowP (b : Book) (goods : Int) : Int × Int × Int :=
  if checkP b ≠ 0 then (0, 0, checkP b) else if within 0 (wr (b.stock.length - 1)) [goods] = true then ((lowW b goods.toNat).1, (lowW b goods.toNat).2, 0) else (0, 0, 7)

theorem within_one {a c n : Int} (h : within a c [n] = true) : a ≤ n ∧ n ≤ c := by
  simp [within] at h
  omega

theorem c35 (b : Book) (goods : Int) (hb : b.Fits) (hacc : checkP b = 0 → ∀ g, g < b.stock.length → b.Acc g) : PC prog 35 [.d b.d, .d (.int .i64 goods)] (.tup [.d (.int .i64 (lowP b goods).1), .d (.int .i64 (lowP b goods).2.1), .d (.int .i64 (lowP b goods).2.2)]) := by
  have hst := hb.stock
  refine PC.run (fun _ => false) tt_ok (fn := f35) (rs := [.cell 4 3, .cell 5 3, .tmp 6]) rfl rfl rfl rfl rfl rfl rfl ?_
  simp only [go_sem, Nat.reduceBEq, Nat.reduceEqDiff, Nat.reduceLT, Nat.reduceLeDiff, Nat.reduceAdd, Nat.reduceSub, Nat.reduceMul, reduceCtorEq, Int.reduceToNat, Int.reduceEq, Int.reduceLT, Int.reduceLE, Int.reduceNe, Int.reduceNeg , or_self, or_false, false_or , List.length_map, Book.d]
  refine (c66 b hb [] (by simp) (by simp)).call rfl rfl rfl ?_
  by_cases hk : checkP b = 0
  · have ho : openP b [] = (b, 0) := by simp [openP, hk]
    simp only [go_sem, Nat.reduceBEq, Nat.reduceEqDiff, Nat.reduceLT, Nat.reduceLeDiff, Nat.reduceAdd, Nat.reduceSub, Nat.reduceMul, reduceCtorEq, Int.reduceToNat, Int.reduceEq, Int.reduceLT, Int.reduceLE, Int.reduceNe, Int.reduceNeg , or_self, or_false, false_or , List.length_map, Book.d, ho]
    refine (c57 0 _ [goods] (by simp)).call rfl rfl rfl ?_
    simp only [go_sem, Nat.reduceBEq, Nat.reduceEqDiff, Nat.reduceLT, Nat.reduceLeDiff, Nat.reduceAdd, Nat.reduceSub, Nat.reduceMul, reduceCtorEq, Int.reduceToNat, Int.reduceEq, Int.reduceLT, Int.reduceLE, Int.reduceNe, Int.reduceNeg , or_self, or_false, false_or , List.length_map]
    refine Br_split (fun hd => ?_) (fun hd => ?_) <;> simp only [go_sem, Nat.reduceBEq, Nat.reduceEqDiff, Nat.reduceLT, Nat.reduceLeDiff, Nat.reduceAdd, Nat.reduceSub, Nat.reduceMul, reduceCtorEq, Int.reduceToNat, Int.reduceEq, Int.reduceLT, Int.reduceLE, Int.reduceNe, Int.reduceNeg , or_self, or_false, false_or , List.length_map, hd]
    · have hw : within 0 (wr (b.stock.length - 1)) [goods] = false := by simpa using hd
      simp [lowP, hk, hw]
    · have hw : within 0 (wr (b.stock.length - 1)) [goods] = true := by simpa using hd
      have hl : lowP b goods = ((lowW b goods.toNat).1, (lowW b goods.toNat).2, 0) := by simp [lowP, hk, hw]
      rw [hl]
      obtain ⟨g, rfl⟩ : ∃ g : Nat, goods = g := ⟨goods.toNat, by have := within_one hw; omega⟩
      have hg : g < b.stock.length := by
        have := within_one hw
        by_cases h0 : b.stock.length = 0
        · rw [h0] at this; simp [wr, IntKind.wrap, IntKind.bits, IntKind.signed] at this; omega
        · rw [show wr ((b.stock.length : Int) - 1) = (b.stock.length : Int) - 1 from w64 (by omega) (by omega)] at this; omega
      refine (c77 b g).call rfl rfl rfl ?_
      simp only [go_sem, Nat.reduceBEq, Nat.reduceEqDiff, Nat.reduceLT, Nat.reduceLeDiff, Nat.reduceAdd, Nat.reduceSub, Nat.reduceMul, reduceCtorEq, Int.reduceToNat, Int.reduceEq, Int.reduceLT, Int.reduceLE, Int.reduceNe, Int.reduceNeg , or_self, or_false, false_or , List.length_map, daysV]
      refine ARng.iter (items := dayItems b g) (J := fun l Hc => ∃ i p, i ≤ 366 ∧ l = (dayItems b g).drop i ∧ Hc = [.cells (bookV b), .cells [.d (.int .i64 (-1))], .cells [.d (.int .i64 p)], .cells (bookV b)] ∧ lowF (fun d => leftW (acctW b g d)) (366 - i) i p = lowW b g)
        (Nat.zero_le _) (fun _ h => nomatch h) rfl (c92 b g (hacc hk g hg)) rfl rfl ?_ ?_ ?_ ?_ ?_
      · rintro l Hc ⟨i, p, _, _, rfl, _⟩
        simp [BBs, BB, VBs, VB, bookV]
      · exact ⟨0, -1, by omega, rfl, rfl, rfl⟩
      · rintro Hc ⟨i, p, hi, hl, rfl, hf⟩
        have hi' : i = 366 := by
          rcases Nat.lt_or_ge i 366 with h | h
          · rw [dayItems_drop b g h] at hl; cases hl
          · omega
        subst hi'
        simp only [Nat.sub_self, lowF] at hf
        simp only [go_sem, Nat.reduceBEq, Nat.reduceEqDiff, Nat.reduceLT, Nat.reduceLeDiff, Nat.reduceAdd, Nat.reduceSub, Nat.reduceMul, reduceCtorEq, Int.reduceToNat, Int.reduceEq, Int.reduceLT, Int.reduceLE, Int.reduceNe, Int.reduceNeg , or_self, or_false, false_or , List.length_map]
        refine ADrw.tree (fun _ => false) tt_ok (by kernel_rfl) (fun k => if k = 0 ∨ k = 1 then .L else if k = 2 ∨ k = 3 then .W else .S) (.ones [0] (.two 1 (.ones [2, 3, 4] .done) 2 (.ones [1, 3, 4] .done))) (by simp) (fun _ h => nomatch h) rfl rfl (by kernel_rfl) ?_
        simp only [go_sem, Nat.reduceBEq, Nat.reduceEqDiff, Nat.reduceLT, Nat.reduceLeDiff, Nat.reduceAdd, Nat.reduceSub, Nat.reduceMul, reduceCtorEq, Int.reduceToNat, Int.reduceEq, Int.reduceLT, Int.reduceLE, Int.reduceNe, Int.reduceNeg , or_self, or_false, false_or , List.length_map]
        simp [← hf]
      · intro xs hxs
        obtain ⟨d, _, rfl⟩ := List.mem_map.1 hxs
        rfl
      · rintro L L' xs rest Hc hxs ⟨i, p, hi, hl, rfl, hf⟩
        have hlt : i < 366 := by
          rcases Nat.lt_or_ge i 366 with h | h
          · exact h
          · rw [show i = 366 by omega, dayItems_end] at hl; cases hl
        rw [dayItems_drop b g hlt] at hl
        obtain ⟨rfl, rfl⟩ := List.cons.inj hl
        rw [show 366 - i = (366 - (i + 1)) + 1 by omega] at hf
        simp only [lowF] at hf
        refine AWP.run (fun _ => false) tt_ok (fun _ h => by cases h; exact Nat.lt_succ_self _) (by simp) rfl ?_
        simp only [go_sem, Nat.reduceBEq, Nat.reduceEqDiff, Nat.reduceLT, Nat.reduceLeDiff, Nat.reduceAdd, Nat.reduceSub, Nat.reduceMul, reduceCtorEq, Int.reduceToNat, Int.reduceEq, Int.reduceLT, Int.reduceLE, Int.reduceNe, Int.reduceNeg , or_self, or_false, false_or , List.length_map, dayItem, Sp.d]
        refine AWP.run (fun _ => false) tt_ok (fun _ h => by cases h; exact Nat.lt_succ_self _) (by simp) rfl ?_
        simp only [go_sem, Nat.reduceBEq, Nat.reduceEqDiff, Nat.reduceLT, Nat.reduceLeDiff, Nat.reduceAdd, Nat.reduceSub, Nat.reduceMul, reduceCtorEq, Int.reduceToNat, Int.reduceEq, Int.reduceLT, Int.reduceLE, Int.reduceNe, Int.reduceNeg , or_self, or_false, false_or , List.length_map]
        have fin : ∀ q : Int, (if (leftW (acctW b g i)).lo < 0 ∧ p = -1 then (i : Int) else p) = q →
            (((leftW (acctW b g i)).hi < 0 → ((i : Int), q) = lowW b g) ∧ (¬ (leftW (acctW b g i)).hi < 0 → lowF (fun d => leftW (acctW b g d)) (366 - (i + 1)) (i + 1) q = lowW b g)) := by
          intro q hq
          rw [hq] at hf
          constructor
          · intro h; rw [if_pos h] at hf; exact hf
          · intro h; rw [if_neg h] at hf; exact hf
        have last : ∀ q : Int, (if (leftW (acctW b g i)).lo < 0 ∧ p = -1 then (i : Int) else p) = q → (leftW (acctW b g i)).hi < 0 → lowW b g = ((i : Int), q) := fun q hq hh => ((fin q hq).1 hh).symm
        refine Br_split (fun h1 => ?_) (fun h1 => ?_) <;> simp only [go_sem, Nat.reduceBEq, Nat.reduceEqDiff, Nat.reduceLT, Nat.reduceLeDiff, Nat.reduceAdd, Nat.reduceSub, Nat.reduceMul, reduceCtorEq, Int.reduceToNat, Int.reduceEq, Int.reduceLT, Int.reduceLE, Int.reduceNe, Int.reduceNeg , or_self, or_false, false_or , List.length_map, h1]
        · have l1 : (leftW (acctW b g i)).lo < 0 := by simpa using h1
          refine Br_split (fun h2 => ?_) (fun h2 => ?_) <;> simp only [go_sem, Nat.reduceBEq, Nat.reduceEqDiff, Nat.reduceLT, Nat.reduceLeDiff, Nat.reduceAdd, Nat.reduceSub, Nat.reduceMul, reduceCtorEq, Int.reduceToNat, Int.reduceEq, Int.reduceLT, Int.reduceLE, Int.reduceNe, Int.reduceNeg , or_self, or_false, false_or , List.length_map, h1, h2]
          · have l2 : p = -1 := by simpa using h2
            refine Br_split (fun h3 => ?_) (fun h3 => ?_) <;> simp only [go_sem, Nat.reduceBEq, Nat.reduceEqDiff, Nat.reduceLT, Nat.reduceLeDiff, Nat.reduceAdd, Nat.reduceSub, Nat.reduceMul, reduceCtorEq, Int.reduceToNat, Int.reduceEq, Int.reduceLT, Int.reduceLE, Int.reduceNe, Int.reduceNeg , or_self, or_false, false_or , List.length_map, h3, bookV]
            · have l3 : (leftW (acctW b g i)).hi < 0 := by simpa using h3
              refine ADrw.tree (fun _ => false) tt_ok (by kernel_rfl) (fun k => if k = 0 ∨ k = 1 then .L else if k = 2 ∨ k = 3 then .W else .S) (.ones [0] (.two 1 (.ones [2, 3, 4] .done) 2 (.ones [1, 3, 4] .done))) (by simp) (fun _ h => nomatch h) rfl rfl (by kernel_rfl) ?_
              simp only [go_sem, Nat.reduceBEq, Nat.reduceEqDiff, Nat.reduceLT, Nat.reduceLeDiff, Nat.reduceAdd, Nat.reduceSub, Nat.reduceMul, reduceCtorEq, Int.reduceToNat, Int.reduceEq, Int.reduceLT, Int.reduceLE, Int.reduceNe, Int.reduceNeg , or_self, or_false, false_or , List.length_map]
              simp [last i (by rw [if_pos ⟨l1, l2⟩]) l3]
            · have l3 : ¬ (leftW (acctW b g i)).hi < 0 := by simpa using h3
              exact ⟨i + 1, i, by omega, rfl, rfl, (fin i (by rw [if_pos ⟨l1, l2⟩])).2 l3⟩
          · have l2 : ¬ p = -1 := by simpa using h2
            refine Br_split (fun h3 => ?_) (fun h3 => ?_) <;> simp only [go_sem, Nat.reduceBEq, Nat.reduceEqDiff, Nat.reduceLT, Nat.reduceLeDiff, Nat.reduceAdd, Nat.reduceSub, Nat.reduceMul, reduceCtorEq, Int.reduceToNat, Int.reduceEq, Int.reduceLT, Int.reduceLE, Int.reduceNe, Int.reduceNeg , or_self, or_false, false_or , List.length_map, h3, bookV]
            · have l3 : (leftW (acctW b g i)).hi < 0 := by simpa using h3
              refine ADrw.tree (fun _ => false) tt_ok (by kernel_rfl) (fun k => if k = 0 ∨ k = 1 then .L else if k = 2 ∨ k = 3 then .W else .S) (.ones [0] (.two 1 (.ones [2, 3, 4] .done) 2 (.ones [1, 3, 4] .done))) (by simp) (fun _ h => nomatch h) rfl rfl (by kernel_rfl) ?_
              simp only [go_sem, Nat.reduceBEq, Nat.reduceEqDiff, Nat.reduceLT, Nat.reduceLeDiff, Nat.reduceAdd, Nat.reduceSub, Nat.reduceMul, reduceCtorEq, Int.reduceToNat, Int.reduceEq, Int.reduceLT, Int.reduceLE, Int.reduceNe, Int.reduceNeg , or_self, or_false, false_or , List.length_map]
              simp [last p (by rw [if_neg (fun h => l2 h.2)]) l3]
            · have l3 : ¬ (leftW (acctW b g i)).hi < 0 := by simpa using h3
              exact ⟨i + 1, p, by omega, rfl, rfl, (fin p (by rw [if_neg (fun h => l2 h.2)])).2 l3⟩
        · have l1 : ¬ (leftW (acctW b g i)).lo < 0 := by simpa using h1
          refine Br_split (fun h3 => ?_) (fun h3 => ?_) <;> simp only [go_sem, Nat.reduceBEq, Nat.reduceEqDiff, Nat.reduceLT, Nat.reduceLeDiff, Nat.reduceAdd, Nat.reduceSub, Nat.reduceMul, reduceCtorEq, Int.reduceToNat, Int.reduceEq, Int.reduceLT, Int.reduceLE, Int.reduceNe, Int.reduceNeg , or_self, or_false, false_or , List.length_map, h3, bookV]
          · have l3 : (leftW (acctW b g i)).hi < 0 := by simpa using h3
            refine ADrw.tree (fun _ => false) tt_ok (by kernel_rfl) (fun k => if k = 0 ∨ k = 1 then .L else if k = 2 ∨ k = 3 then .W else .S) (.ones [0] (.two 1 (.ones [2, 3, 4] .done) 2 (.ones [1, 3, 4] .done))) (by simp) (fun _ h => nomatch h) rfl rfl (by kernel_rfl) ?_
            simp only [go_sem, Nat.reduceBEq, Nat.reduceEqDiff, Nat.reduceLT, Nat.reduceLeDiff, Nat.reduceAdd, Nat.reduceSub, Nat.reduceMul, reduceCtorEq, Int.reduceToNat, Int.reduceEq, Int.reduceLT, Int.reduceLE, Int.reduceNe, Int.reduceNeg , or_self, or_false, false_or , List.length_map]
            simp [last p (by rw [if_neg (fun h => l1 h.1)]) l3]
          · have l3 : ¬ (leftW (acctW b g i)).hi < 0 := by simpa using h3
            exact ⟨i + 1, p, by omega, rfl, rfl, (fin p (by rw [if_neg (fun h => l1 h.1)])).2 l3⟩
  · have ho : openP b [] = (Book.none, checkP b) := by simp [openP, hk]
    have hl : lowP b goods = (0, 0, checkP b) := by simp [lowP, hk]
    rw [hl]
    simp only [go_sem, Nat.reduceBEq, Nat.reduceEqDiff, Nat.reduceLT, Nat.reduceLeDiff, Nat.reduceAdd, Nat.reduceSub, Nat.reduceMul, reduceCtorEq, Int.reduceToNat, Int.reduceEq, Int.reduceLT, Int.reduceLE, Int.reduceNe, Int.reduceNeg , or_self, or_false, false_or , List.length_map, Book.d, ho, hk]
end Go.Aw
end

section
namespace Go.Aw
open Go Go.Proofs.Try

theorem enc_buy : Enc 3 (Tt 108) BuyS.d := fun x => ⟨rfl, rfl⟩

def buyStep (f : Nat → Sp) (s : Int × Int) (d : Nat) : Int × Int := (if (f d).lo < 0 ∧ s.1 = -1 then (d : Int) else s.1, max s.2 (wr (0 - (f d).lo)))

def buyI (b : Book) (g i : Nat) : Int × Int := (List.range i).foldl (buyStep fun d => leftW (acctW b g d)) (-1, 0)

theorem buyI_succ (b : Book) (g i : Nat) : buyI b g (i + 1) = buyStep (fun d => leftW (acctW b g d)) (buyI b g i) i := by
  rw [buyI, List.range_succ, List.foldl_append]; rfl

def buyOne (b : Book) (days : Int) (g : Nat) : List BuyS := if (buyI b g 366).1 = -1 then [] else [⟨g, wr ((buyI b g 366).1 - days), (buyI b g 366).2⟩]

def buysI (b : Book) (days : Int) (i : Nat) : List BuyS := (List.range i).flatMap (buyOne b days)

theorem buysI_succ (b : Book) (days : Int) (i : Nat) : buysI b days (i + 1) = buysI b days i ++ buyOne b days i := by
  rw [buysI, List.range_succ, List.flatMap_append]; simp [buysI]

theorem buysI_len (b : Book) (days : Int) : ∀ i, (buysI b days i).length ≤ i
  | 0 => by simp [buysI]
  | i + 1 => by
    rw [buysI_succ, List.length_append]
    have := buysI_len b days i
    have : (buyOne b days i).length ≤ 1 := by unfold buyOne; split <;> simp
    omega

def buyP (b : Book) (days : Int) : List BuyS × Int :=
  if checkP b ≠ 0 then ([], checkP b) else if within 0 60 [days] = true then (buysI b days b.stock.length, 0) else ([], 3)

@[go_sem] def buyH (b : Book) (l : List BuyS) : Heap := [.cells (bookV b), .arr 3 l.isEmpty (l.map BuyS.d), .cells (bookV b)]

theorem c36 (b : Book) (days : Int) (hb : b.Fits) (hacc : checkP b = 0 → ∀ g, g < b.stock.length → b.Acc g) : PC prog 36 [.d b.d, .d (.int .i64 days)] (.tup [.d (.sl ((buyP b days).1.map BuyS.d)), .d (.int .i64 (buyP b days).2)]) := by
  have hst := hb.stock
  refine PC.run (fun k => k == 4) tt_ok (fn := f36) (rs := [.tmp 4, .tmp 5]) rfl rfl rfl rfl rfl rfl rfl ?_
  simp only [go_sem, Nat.reduceBEq, Nat.reduceEqDiff, Nat.reduceLT, Nat.reduceLeDiff, Nat.reduceAdd, Nat.reduceSub, Nat.reduceMul, reduceCtorEq, Int.reduceToNat, Int.reduceEq, Int.reduceLT, Int.reduceLE, Int.reduceNe, Int.reduceNeg , or_self, or_false, false_or , List.length_map, Book.d]
  refine (c66 b hb [] (by simp) (by simp)).call rfl rfl rfl ?_
  by_cases hk : checkP b = 0
  · have ho : openP b [] = (b, 0) := by simp [openP, hk]
    simp only [go_sem, Nat.reduceBEq, Nat.reduceEqDiff, Nat.reduceLT, Nat.reduceLeDiff, Nat.reduceAdd, Nat.reduceSub, Nat.reduceMul, reduceCtorEq, Int.reduceToNat, Int.reduceEq, Int.reduceLT, Int.reduceLE, Int.reduceNe, Int.reduceNeg , or_self, or_false, false_or , List.length_map, Book.d, ho]
    refine (c57 0 60 [days] (by simp)).call rfl rfl rfl ?_
    simp only [go_sem, Nat.reduceBEq, Nat.reduceEqDiff, Nat.reduceLT, Nat.reduceLeDiff, Nat.reduceAdd, Nat.reduceSub, Nat.reduceMul, reduceCtorEq, Int.reduceToNat, Int.reduceEq, Int.reduceLT, Int.reduceLE, Int.reduceNe, Int.reduceNeg , or_self, or_false, false_or , List.length_map]
    refine Br_split (fun hd => ?_) (fun hd => ?_) <;> simp only [go_sem, Nat.reduceBEq, Nat.reduceEqDiff, Nat.reduceLT, Nat.reduceLeDiff, Nat.reduceAdd, Nat.reduceSub, Nat.reduceMul, reduceCtorEq, Int.reduceToNat, Int.reduceEq, Int.reduceLT, Int.reduceLE, Int.reduceNe, Int.reduceNeg , or_self, or_false, false_or , List.length_map, hd]
    · have hw : within 0 60 [days] = false := by simpa using hd
      simp [buyP, hk, hw]
    · have hw : within 0 60 [days] = true := by simpa using hd
      have hl : buyP b days = (buysI b days b.stock.length, 0) := by simp [buyP, hk, hw]
      rw [hl]
      refine ALoop.by (S := Nat) (fun i => [(30, .d (.int .i64 i)), (29, .d (.int .i64 b.stock.length)), (4, .ref 1 (buysI b days i).length 0 (buysI b days i).length), (6, .ptr 2 0), (1, .d (.int .i64 days))])
        (fun i => buyH b (buysI b days i)) (fun i => b.stock.length - i) (fun i => i ≤ b.stock.length) 0 (by simp) (fun _ h => nomatch h) (Nat.zero_le _) ?_ ?_
      · simp [ForgetTo, EW, VW, BBq, BBs, BB, VBs, VB, Env.look, pubV, bookV, buyH, buysI]
      · rintro i hi hn
        refine AWP.run (fun k => k == 4) tt_ok (fun _ h => nomatch h) (by simp) rfl ?_
        simp only [go_sem, Nat.reduceBEq, Nat.reduceEqDiff, Nat.reduceLT, Nat.reduceLeDiff, Nat.reduceAdd, Nat.reduceSub, Nat.reduceMul, reduceCtorEq, Int.reduceToNat, Int.reduceEq, Int.reduceLT, Int.reduceLE, Int.reduceNe, Int.reduceNeg , or_self, or_false, false_or , List.length_map]
        refine Br_split (fun hd => ?_) (fun hd => ?_) <;> simp only [go_sem, Nat.reduceBEq, Nat.reduceEqDiff, Nat.reduceLT, Nat.reduceLeDiff, Nat.reduceAdd, Nat.reduceSub, Nat.reduceMul, reduceCtorEq, Int.reduceToNat, Int.reduceEq, Int.reduceLT, Int.reduceLE, Int.reduceNe, Int.reduceNeg , or_self, or_false, false_or , List.length_map, hd]
        · have hlt : i < b.stock.length := by simpa using hd
          refine (c77 b i).call rfl rfl rfl ?_
          simp only [go_sem, Nat.reduceBEq, Nat.reduceEqDiff, Nat.reduceLT, Nat.reduceLeDiff, Nat.reduceAdd, Nat.reduceSub, Nat.reduceMul, reduceCtorEq, Int.reduceToNat, Int.reduceEq, Int.reduceLT, Int.reduceLE, Int.reduceNe, Int.reduceNeg , or_self, or_false, false_or , List.length_map, daysV]
          refine ARng.iter (items := dayItems b i) (J := fun l Hc => ∃ j, j ≤ 366 ∧ l = (dayItems b i).drop j ∧ Hc = buyH b (buysI b days i) ++ [.cells [.d (.int .i64 (buyI b i j).1)], .cells [.d (.int .i64 (buyI b i j).2)]])
            (Nat.zero_le _) (fun _ h => nomatch h) rfl (c92 b i (hacc hk i hlt)) rfl rfl ?_ ?_ ?_ ?_ ?_
          · rintro l Hc ⟨j, _, _, rfl⟩
            simp [BBs, BB, VBs, VB, bookV, buyH]
          · exact ⟨0, by omega, rfl, rfl⟩
          · rintro Hc ⟨j, hj, hl, rfl⟩
            have hj' : j = 366 := by
              rcases Nat.lt_or_ge j 366 with h | h
              · rw [dayItems_drop b i h] at hl; cases hl
              · omega
            subst hj'
            simp only [go_sem, Nat.reduceBEq, Nat.reduceEqDiff, Nat.reduceLT, Nat.reduceLeDiff, Nat.reduceAdd, Nat.reduceSub, Nat.reduceMul, reduceCtorEq, Int.reduceToNat, Int.reduceEq, Int.reduceLT, Int.reduceLE, Int.reduceNe, Int.reduceNeg , or_self, or_false, false_or , List.length_map]
            have hlen := buysI_len b days i
            have hle : (buysI b days i).length + 1 ≤ 4294967296 := by omega
            refine Br_split (fun h1 => ?_) (fun h1 => ?_) <;> simp only [go_sem, Nat.reduceBEq, Nat.reduceEqDiff, Nat.reduceLT, Nat.reduceLeDiff, Nat.reduceAdd, Nat.reduceSub, Nat.reduceMul, reduceCtorEq, Int.reduceToNat, Int.reduceEq, Int.reduceLT, Int.reduceLE, Int.reduceNe, Int.reduceNeg , or_self, or_false, false_or , List.length_map, h1, hle]
            · have h1' : ¬ (buyI b i 366).1 = -1 := by simpa using h1
              refine ⟨i + 1, hlt, by omega, ?_⟩
              rw [buysI_succ, show buyOne b days i = [⟨i, wr ((buyI b i 366).1 - days), (buyI b i 366).2⟩] by simp [buyOne, h1']]
              simp [ForgetTo, EW, VW, BBq, BBs, BB, VBs, VB, Env.look, pubV, bookV, buyH, w64 (n := (i : Int) + 1) (by omega) (by omega), BuyS.d]
            · have h1' : (buyI b i 366).1 = -1 := by simpa using h1
              refine ⟨i + 1, hlt, by omega, ?_⟩
              rw [buysI_succ, show buyOne b days i = [] by simp [buyOne, h1'], List.append_nil]
              simp [ForgetTo, EW, VW, BBq, BBs, BB, VBs, VB, Env.look, pubV, bookV, buyH, w64 (n := (i : Int) + 1) (by omega) (by omega), BuyS.d]
          · intro xs hxs
            obtain ⟨d, _, rfl⟩ := List.mem_map.1 hxs
            rfl
          · rintro L L' xs rest Hc hxs ⟨j, hj, hl, rfl⟩
            have hlt : j < 366 := by
              rcases Nat.lt_or_ge j 366 with h | h
              · exact h
              · rw [show j = 366 by omega, dayItems_end] at hl; cases hl
            rw [dayItems_drop b i hlt] at hl
            obtain ⟨rfl, rfl⟩ := List.cons.inj hl
            refine AWP.run (fun k => k == 4) tt_ok (fun _ h => by cases h; exact Nat.lt_succ_self _) (by simp [buyH]) rfl ?_
            simp only [go_sem, Nat.reduceBEq, Nat.reduceEqDiff, Nat.reduceLT, Nat.reduceLeDiff, Nat.reduceAdd, Nat.reduceSub, Nat.reduceMul, reduceCtorEq, Int.reduceToNat, Int.reduceEq, Int.reduceLT, Int.reduceLE, Int.reduceNe, Int.reduceNeg , or_self, or_false, false_or , List.length_map, dayItem, Sp.d]
            refine AWP.run (fun k => k == 4) tt_ok (fun _ h => by cases h; exact Nat.lt_succ_self _) (by simp [buyH]) rfl ?_
            simp only [go_sem, Nat.reduceBEq, Nat.reduceEqDiff, Nat.reduceLT, Nat.reduceLeDiff, Nat.reduceAdd, Nat.reduceSub, Nat.reduceMul, reduceCtorEq, Int.reduceToNat, Int.reduceEq, Int.reduceLT, Int.reduceLE, Int.reduceNe, Int.reduceNeg , or_self, or_false, false_or , List.length_map]
            refine Br_split (fun h1 => ?_) (fun h1 => ?_) <;> simp only [go_sem, Nat.reduceBEq, Nat.reduceEqDiff, Nat.reduceLT, Nat.reduceLeDiff, Nat.reduceAdd, Nat.reduceSub, Nat.reduceMul, reduceCtorEq, Int.reduceToNat, Int.reduceEq, Int.reduceLT, Int.reduceLE, Int.reduceNe, Int.reduceNeg , or_self, or_false, false_or , List.length_map, h1]
            · have l1 : (leftW (acctW b i j)).lo < 0 := by simpa using h1
              refine Br_split (fun h2 => ?_) (fun h2 => ?_) <;> simp only [go_sem, Nat.reduceBEq, Nat.reduceEqDiff, Nat.reduceLT, Nat.reduceLeDiff, Nat.reduceAdd, Nat.reduceSub, Nat.reduceMul, reduceCtorEq, Int.reduceToNat, Int.reduceEq, Int.reduceLT, Int.reduceLE, Int.reduceNe, Int.reduceNeg , or_self, or_false, false_or , List.length_map, h1, h2]
              · have l2 : (buyI b i j).1 = -1 := by simpa using h2
                refine ⟨j + 1, by omega, rfl, ?_⟩
                rw [buyI_succ]
                simp [buyStep, l1, l2, bookV]
              · have l2 : ¬ (buyI b i j).1 = -1 := by simpa using h2
                refine ⟨j + 1, by omega, rfl, ?_⟩
                rw [buyI_succ]
                simp [buyStep, l1, l2, bookV]
            · have l1 : ¬ (leftW (acctW b i j)).lo < 0 := by simpa using h1
              refine ⟨j + 1, by omega, rfl, ?_⟩
              rw [buyI_succ]
              simp [buyStep, l1, bookV]
        · have hlt : ¬ i < b.stock.length := by simpa using hd
          have : i = b.stock.length := by omega
          subst this
          have ht : ∀ l : List BuyS, (l.map BuyS.d).take l.length = l.map BuyS.d := fun l => List.take_of_length_le (by simp)
          simp only [go_sem, Nat.reduceBEq, Nat.reduceEqDiff, Nat.reduceLT, Nat.reduceLeDiff, Nat.reduceAdd, Nat.reduceSub, Nat.reduceMul, reduceCtorEq, Int.reduceToNat, Int.reduceEq, Int.reduceLT, Int.reduceLE, Int.reduceNe, Int.reduceNeg , or_self, or_false, false_or , List.length_map, ht]
  · have ho : openP b [] = (Book.none, checkP b) := by simp [openP, hk]
    have hl : buyP b days = ([], checkP b) := by simp [buyP, hk]
    rw [hl]
    simp only [go_sem, Nat.reduceBEq, Nat.reduceEqDiff, Nat.reduceLT, Nat.reduceLeDiff, Nat.reduceAdd, Nat.reduceSub, Nat.reduceMul, reduceCtorEq, Int.reduceToNat, Int.reduceEq, Int.reduceLT, Int.reduceLE, Int.reduceNe, Int.reduceNeg , or_self, or_false, false_or , List.length_map, Book.d, ho, hk]
end Go.Aw
end

section
namespace Go.Aw
open Go Go.Proofs.Try

/-- What a sign of each kind takes. -/
structure T3 where
  x : Int
  y : Int
  z : Int
deriving DecidableEq

def T3.d (t : T3) : D := .agg [.int .i64 t.x, .int .i64 t.y, .int .i64 t.z]
@[go_sem] def T3.vs (t : T3) : List V := [.d (.int .i64 t.x), .d (.int .i64 t.y), .d (.int .i64 t.z)]

def T3.set (t : T3) (k : Nat) (n : Int) : T3 :=
  match k with
  | 0 => ⟨n, t.y, t.z⟩
  | 1 => ⟨t.x, n, t.z⟩
  | _ => ⟨t.x, t.y, n⟩

theorem T3.set_set (t : T3) (m n : Int) : ∀ k : Nat, (t.set k m).set k n = t.set k n
  | 0 => rfl
  | 1 => rfl
  | _ + 2 => rfl

def Acct.sg (a : Acct) : Nat → Int
  | 0 => a.s0
  | 1 => a.s1
  | _ => a.s2

def Acct.sp (a : Acct) : Nat → Sp
  | 0 => a.p0
  | 1 => a.p1
  | _ => a.p2

/-- The integers of a span. -/
def loHi (p : Sp) : List Int := (List.range (p.hi + 1 - p.lo).toNat).map fun j => p.lo + (j : Nat)

def truF (a : Acct) : Nat → Nat → T3 → Int → List (T3 × Int)
  | 0, _, t, left => [(t, left)]
  | r + 1, k, t, left => (loHi (a.sp k)).flatMap fun n => truF a r (k + 1) (t.set k n) (wr (left - wr (n * a.sg k)))

def truI (p : T3 × Int) : List V := [.d p.1.d, .d (.int .i64 p.2)]

/-- The blocks of truths, above n others. -/
def onV (n : Nat) : V := .fn (.func 97) [] [.ptr n 0, .ptr (n + 1) 0, .ptr (n + 2) 0]

structure TruK (a : Acct) (yv : V) (n : Nat) (K : Heap) : Prop where
  len : K.length = n + 3
  g0 : K[n]? = some (.cells a.vs)
  g1 : K[n + 1]? = some (.cells [yv])
  g2 : K[n + 2]? = some (.cells [onV n])
  bb : BBs (n + 3) K

def TruPost (I : List (List V) → Heap → Prop) (Q : Heap → Prop) (rest : List (List V)) (v : V) (K : Heap) : Prop :=
  (v = .d (.bool true) ∧ I rest K) ∨ (v = .d (.bool false) ∧ Q K)

/-- Spans and kinds that the account's code keeps to. -/
structure Acct.Ok (a : Acct) : Prop where
  k0 : 0 ≤ a.kinds
  k3 : a.kinds ≤ 3
  lo : ∀ k, -1000000 ≤ (a.sp k).lo
  hi : ∀ k, (a.sp k).hi ≤ 1000000

theorem loHi_len (p : Sp) : (loHi p).length = (p.hi + 1 - p.lo).toNat := by simp [loHi]

theorem loHi_drop (p : Sp) {j : Nat} (h : p.lo + j ≤ p.hi) : (loHi p).drop j = (p.lo + j) :: (loHi p).drop (j + 1) := by
  unfold loHi
  rw [List.drop_eq_getElem_cons (by simp; omega)]
  simp

theorem loHi_end (p : Sp) {j : Nat} (h : ¬ p.lo + j ≤ p.hi) : (loHi p).drop j = [] := List.drop_eq_nil_of_le (by rw [loHi_len]; omega)

section
variable {a : Acct} {yv : V} {n : Nat} {I : List (List V) → Heap → Prop} {Q : Heap → Prop}

/-- A call above a block more. -/
theorem tru_frame (hyn : VB n yv = true) (hI : ∀ l K, I l K → TruK a yv n K) (hQ : ∀ K, Q K → TruK a yv n K) {f : V} {vs : List V} {K X : Heap} {rest : List (List V)} (hK : TruK a yv n K) (hf : VB (n + 3) f = true) (hvs : VBs (n + 3) vs = true)
    (h : ACallV prog f vs K (TruPost I Q rest)) : ACallV prog f vs (K ++ X) (fun v H' => ∃ K1, H' = K1 ++ X ∧ TruK a yv n K1 ∧ TruPost I Q rest v K1) := by
  have hlen : ∀ v H', TruPost I Q rest v H' → TruK a yv n H' := by
    rintro v H' (⟨_, h⟩ | ⟨_, h⟩)
    · exact hI _ _ h
    · exact hQ _ h
  refine (ACallV.frame (fun id x hx => BB_le (Nat.le_of_eq hK.len.symm) (BBs_get hK.bb id x hx)) (by rw [hK.len]; exact hf) (by rw [hK.len]; exact hvs) (fun v H' hv => by rw [hK.len, (hlen v H' hv).len]) h).mono ?_
  rintro v H' ⟨H1, rfl, hp⟩
  exact ⟨H1, rfl, hlen v H1 hp, hp⟩

theorem c97 (ha : a.Ok) (hyn : VB n yv = true) (hI : ∀ l K, I l K → TruK a yv n K) (hQ : ∀ K, Q K → TruK a yv n K)
    (hy : ∀ p rest K, I (truI p :: rest) K → ACallV prog yv (truI p) K (TruPost I Q rest)) :
    ∀ (r k : Nat) (t : T3) (left : Int) (rest : List (List V)) (K : Heap), ((k + r : Nat) : Int) = a.kinds → I ((truF a r k t left).map truI ++ rest) K →
      ACalls prog 97 [.d t.d, .d (.int .i64 k), .d (.int .i64 left), .ptr n 0, .ptr (n + 1) 0, .ptr (n + 2) 0] K (TruPost I Q rest) := by
  intro r
  induction r with
  | zero =>
    intro k t left rest K hk hi
    have hK := hI _ _ hi
    have hlt : n < K.length ∧ n + 1 < K.length ∧ n + 2 < K.length := by have := hK.len; omega
    have hget : ∀ (w : Blk), (K ++ [w])[n]? = some (.cells a.vs) ∧ (K ++ [w])[n + 1]? = some (.cells [yv]) ∧ (K ++ [w])[K.length]? = some w := fun w =>
      ⟨by rw [List.getElem?_append_left hlt.1]; exact hK.g0, by rw [List.getElem?_append_left hlt.2.1]; exact hK.g1, by simp⟩
    refine ACalls.run (fun _ => false) tt_ok (fn := f97) (rs := [.tmp 9]) rfl rfl rfl rfl rfl rfl rfl ?_
    simp only [go_sem, Nat.reduceBEq, Nat.reduceEqDiff, Nat.reduceLT, Nat.reduceLeDiff, Nat.reduceAdd, Nat.reduceSub, Nat.reduceMul, reduceCtorEq, Int.reduceToNat, Int.reduceEq, Int.reduceLT, Int.reduceLE, Int.reduceNe, Int.reduceNeg , or_self, or_false, false_or , List.length_map, T3.d, hget, Acct.vs]
    have hc : decide ((k : Int) = a.kinds) = true := by simpa using hk
    rw [hc]
    simp only [go_sem, Nat.reduceBEq, Nat.reduceEqDiff, Nat.reduceLT, Nat.reduceLeDiff, Nat.reduceAdd, Nat.reduceSub, Nat.reduceMul, reduceCtorEq, Int.reduceToNat, Int.reduceEq, Int.reduceLT, Int.reduceLE, Int.reduceNe, Int.reduceNeg , or_self, or_false, false_or , List.length_map, hget]
    refine (tru_frame hyn hI hQ (X := [.cells t.vs]) hK (VB_le (by omega) _ hyn) rfl (hy (t, left) rest K hi)).mono ?_
    rintro v H' ⟨K1, rfl, hK1, hp⟩
    have ht : (K1 ++ [Blk.cells t.vs]).take K.length = K1 := by rw [hK.len, ← hK1.len]; simp
    simp only [go_sem, Nat.reduceBEq, Nat.reduceEqDiff, Nat.reduceLT, Nat.reduceLeDiff, Nat.reduceAdd, Nat.reduceSub, Nat.reduceMul, reduceCtorEq, Int.reduceToNat, Int.reduceEq, Int.reduceLT, Int.reduceLE, Int.reduceNe, Int.reduceNeg , or_self, or_false, false_or , List.length_map] at ht
    have hbb : BBs K.length K1 := by rw [hK.len]; exact hK1.bb
    rcases hp with ⟨rfl, h⟩ | ⟨rfl, h⟩
    · simp only [go_sem, Nat.reduceBEq, Nat.reduceEqDiff, Nat.reduceLT, Nat.reduceLeDiff, Nat.reduceAdd, Nat.reduceSub, Nat.reduceMul, reduceCtorEq, Int.reduceToNat, Int.reduceEq, Int.reduceLT, Int.reduceLE, Int.reduceNe, Int.reduceNeg , or_self, or_false, false_or , List.length_map, ht]
      exact ⟨.inr hbb, .inl ⟨rfl, h⟩⟩
    · simp only [go_sem, Nat.reduceBEq, Nat.reduceEqDiff, Nat.reduceLT, Nat.reduceLeDiff, Nat.reduceAdd, Nat.reduceSub, Nat.reduceMul, reduceCtorEq, Int.reduceToNat, Int.reduceEq, Int.reduceLT, Int.reduceLE, Int.reduceNe, Int.reduceNeg , or_self, or_false, false_or , List.length_map, ht]
      exact ⟨.inr hbb, .inr ⟨rfl, h⟩⟩
  | succ r ih =>
    intro k t left rest K hk hi
    have hK := hI _ _ hi
    have hkk : k = 0 ∨ k = 1 ∨ k = 2 := by have := ha.k3; omega
    have hc : decide ((k : Int) = a.kinds) = false := by simp; omega
    rcases hkk with rfl | rfl | rfl
    · have hsp : a.sp 0 = a.p0 := rfl
      have hsg : a.sg 0 = a.s0 := rfl
      have hlo := ha.lo 0
      have hhi := ha.hi 0
      rw [hsp] at hlo hhi
      have hget : ∀ (K : Heap), TruK a yv n K → ∀ (w : Blk), (K ++ [w])[n]? = some (.cells a.vs) ∧ (K ++ [w])[n + 2]? = some (.cells [onV n]) ∧ (K ++ [w])[n + 3]? = some w ∧ (∀ w', (K ++ [w]).set (n + 3) w' = K ++ [w']) := fun K hK w =>
        ⟨by rw [List.getElem?_append_left (by have := hK.len; omega)]; exact hK.g0, by rw [List.getElem?_append_left (by have := hK.len; omega)]; exact hK.g2, by rw [← hK.len]; simp, fun w' => by rw [← hK.len]; simp⟩
      refine ACalls.run (fun _ => false) tt_ok (fn := f97) (rs := [.tmp 9]) rfl rfl rfl rfl rfl rfl rfl ?_
      simp only [go_sem, Nat.reduceBEq, Nat.reduceEqDiff, Nat.reduceLT, Nat.reduceLeDiff, Nat.reduceAdd, Nat.reduceSub, Nat.reduceMul, reduceCtorEq, Int.reduceToNat, Int.reduceEq, Int.reduceLT, Int.reduceLE, Int.reduceNe, Int.reduceNeg , or_self, or_false, false_or , List.length_map, T3.d, hK.len, hget K hK, Acct.vs, hc]
      simp only [go_sem, Nat.reduceBEq, Nat.reduceEqDiff, Nat.reduceLT, Nat.reduceLeDiff, Nat.reduceAdd, Nat.reduceSub, Nat.reduceMul, reduceCtorEq, Int.reduceToNat, Int.reduceEq, Int.reduceLT, Int.reduceLE, Int.reduceNe, Int.reduceNeg , or_self, or_false, false_or , List.length_map, hget K hK, Acct.vs, Int.cast_ofNat_Int]
      refine ALoop.by (S := Nat × T3 × Heap) (fun s => [(10, .d (.int .i64 (a.p0.lo + (s.1 : Nat)))), (1, .d (.int .i64 0)), (2, .d (.int .i64 left)), (3, .ptr n 0), (4, .ptr (n + 1) 0), (5, .ptr (n + 2) 0), (6, .ptr (n + 3) 0)])
        (fun s => s.2.2 ++ [.cells s.2.1.vs]) (fun s => (a.p0.hi + 1 - a.p0.lo).toNat - s.1)
        (fun s => (∀ n0, s.2.1.set 0 n0 = t.set 0 n0) ∧ I ((((loHi a.p0).drop s.1).flatMap fun n0 => truF a r 1 (t.set 0 n0) (wr (left - wr (n0 * a.s0)))).map truI ++ rest) s.2.2) (0, t, K) (by simp [hK.len]) (fun _ h => nomatch h) ⟨fun _ => rfl, hi⟩ ?_ ?_
      · exact ForgetTo.same (by simp [hK.len]) (by simp [EWe, Env.look])
      · rintro ⟨j, t', K'⟩ ⟨hset, hi'⟩ hn
        simp only at hset hi' hn ⊢
        have hK' := hI _ _ hi'
        refine AWP.run (fun _ => false) tt_ok (fun _ h => nomatch h) hn rfl ?_
        simp only [go_sem, Nat.reduceBEq, Nat.reduceEqDiff, Nat.reduceLT, Nat.reduceLeDiff, Nat.reduceAdd, Nat.reduceSub, Nat.reduceMul, reduceCtorEq, Int.reduceToNat, Int.reduceEq, Int.reduceLT, Int.reduceLE, Int.reduceNe, Int.reduceNeg , or_self, or_false, false_or , List.length_map, hget K' hK', Acct.vs, Int.cast_ofNat_Int]
        refine Br_split (fun hd => ?_) (fun hd => ?_)
        · have hle : a.p0.lo + (j : Nat) ≤ a.p0.hi := by simpa using hd
          simp only [go_sem, Nat.reduceBEq, Nat.reduceEqDiff, Nat.reduceLT, Nat.reduceLeDiff, Nat.reduceAdd, Nat.reduceSub, Nat.reduceMul, reduceCtorEq, Int.reduceToNat, Int.reduceEq, Int.reduceLT, Int.reduceLE, Int.reduceNe, Int.reduceNeg , or_self, or_false, false_or , List.length_map, hget K' hK', Acct.vs, Int.cast_ofNat_Int]
          refine ADrw.treeG (fun _ => false) tt_ok (by kernel_rfl) (fun k => if k = 0 ∨ k = 1 ∨ k = 9 then some .L else if k = 12 then none else some .S) (.ones [0, 1, 2, 3, 4, 5, 6, 7, 8, 9, 10, 11] (.only 12 (.one 13 .done))) (by simp [hK'.len]) (fun _ h => nomatch h) rfl rfl (by kernel_rfl) ?_
          simp only [go_sem, Nat.reduceBEq, Nat.reduceEqDiff, Nat.reduceLT, Nat.reduceLeDiff, Nat.reduceAdd, Nat.reduceSub, Nat.reduceMul, reduceCtorEq, Int.reduceToNat, Int.reduceEq, Int.reduceLT, Int.reduceLE, Int.reduceNe, Int.reduceNeg , or_self, or_false, false_or , List.length_map, hget K' hK', Acct.vs, Int.cast_ofNat_Int, onV]
          rw [loHi_drop _ hle, List.flatMap_cons, List.map_append, List.append_assoc] at hi'
          have hcall := ih 1 (t.set 0 (a.p0.lo + (j : Nat))) _ _ K' (by simp only [← hk]; omega) hi'
          rw [← hset] at hcall
          rw [show IntKind.i64.wrap (0 + 1) = 1 from rfl]
          refine (tru_frame hyn hI hQ (X := [.cells (t'.set 0 (a.p0.lo + (j : Nat))).vs]) hK' (by simp [VB, VBs]) (by simp [VB, VBs]) (ACallV.of rfl hcall)).mono ?_
          rintro v H' ⟨K1, rfl, hK1, hp⟩
          have ht : (K1 ++ [Blk.cells (t'.set 0 (a.p0.lo + (j : Nat))).vs]).take (n + 3) = K1 := by rw [← hK1.len]; simp
          simp only [go_sem, Nat.reduceBEq, Nat.reduceEqDiff, Nat.reduceLT, Nat.reduceLeDiff, Nat.reduceAdd, Nat.reduceSub, Nat.reduceMul, reduceCtorEq, Int.reduceToNat, Int.reduceEq, Int.reduceLT, Int.reduceLE, Int.reduceNe, Int.reduceNeg , or_self, or_false, false_or , List.length_map] at ht
          rcases hp with ⟨rfl, h⟩ | ⟨rfl, h⟩
          · simp only [go_sem, Nat.reduceBEq, Nat.reduceEqDiff, Nat.reduceLT, Nat.reduceLeDiff, Nat.reduceAdd, Nat.reduceSub, Nat.reduceMul, reduceCtorEq, Int.reduceToNat, Int.reduceEq, Int.reduceLT, Int.reduceLE, Int.reduceNe, Int.reduceNeg , or_self, or_false, false_or , List.length_map]
            refine ⟨(j + 1, t'.set 0 (a.p0.lo + (j : Nat)), K1), ⟨fun n0 => by rw [T3.set_set]; exact hset n0, h⟩, by simp only; omega, ?_⟩
            refine ForgetTo.same (by simp [hK1.len]) ?_
            simp [EWe, Env.look, w64 (n := a.p0.lo + ((j : Int) + 1)) (by omega) (by omega), Int.add_assoc]
          · simp only [go_sem, Nat.reduceBEq, Nat.reduceEqDiff, Nat.reduceLT, Nat.reduceLeDiff, Nat.reduceAdd, Nat.reduceSub, Nat.reduceMul, reduceCtorEq, Int.reduceToNat, Int.reduceEq, Int.reduceLT, Int.reduceLE, Int.reduceNe, Int.reduceNeg , or_self, or_false, false_or , List.length_map, ht]
            exact ⟨.inr hK1.bb, .inr ⟨rfl, h⟩⟩
        · have hle : ¬ a.p0.lo + (j : Nat) ≤ a.p0.hi := by simpa using hd
          rw [loHi_end _ hle] at hi'
          have ht : (K' ++ [Blk.cells t'.vs]).take (n + 3) = K' := by rw [← hK'.len]; simp
          simp only [go_sem, Nat.reduceBEq, Nat.reduceEqDiff, Nat.reduceLT, Nat.reduceLeDiff, Nat.reduceAdd, Nat.reduceSub, Nat.reduceMul, reduceCtorEq, Int.reduceToNat, Int.reduceEq, Int.reduceLT, Int.reduceLE, Int.reduceNe, Int.reduceNeg , or_self, or_false, false_or , List.length_map] at ht
          simp only [go_sem, Nat.reduceBEq, Nat.reduceEqDiff, Nat.reduceLT, Nat.reduceLeDiff, Nat.reduceAdd, Nat.reduceSub, Nat.reduceMul, reduceCtorEq, Int.reduceToNat, Int.reduceEq, Int.reduceLT, Int.reduceLE, Int.reduceNe, Int.reduceNeg , or_self, or_false, false_or , List.length_map, ht]
          exact ⟨.inr hK'.bb, .inl ⟨rfl, hi'⟩⟩

    · have hsp : a.sp 1 = a.p1 := rfl
      have hsg : a.sg 1 = a.s1 := rfl
      have hlo := ha.lo 1
      have hhi := ha.hi 1
      rw [hsp] at hlo hhi
      have hget : ∀ (K : Heap), TruK a yv n K → ∀ (w : Blk), (K ++ [w])[n]? = some (.cells a.vs) ∧ (K ++ [w])[n + 2]? = some (.cells [onV n]) ∧ (K ++ [w])[n + 3]? = some w ∧ (∀ w', (K ++ [w]).set (n + 3) w' = K ++ [w']) := fun K hK w =>
        ⟨by rw [List.getElem?_append_left (by have := hK.len; omega)]; exact hK.g0, by rw [List.getElem?_append_left (by have := hK.len; omega)]; exact hK.g2, by rw [← hK.len]; simp, fun w' => by rw [← hK.len]; simp⟩
      refine ACalls.run (fun _ => false) tt_ok (fn := f97) (rs := [.tmp 9]) rfl rfl rfl rfl rfl rfl rfl ?_
      simp only [go_sem, Nat.reduceBEq, Nat.reduceEqDiff, Nat.reduceLT, Nat.reduceLeDiff, Nat.reduceAdd, Nat.reduceSub, Nat.reduceMul, reduceCtorEq, Int.reduceToNat, Int.reduceEq, Int.reduceLT, Int.reduceLE, Int.reduceNe, Int.reduceNeg , or_self, or_false, false_or , List.length_map, T3.d, hK.len, hget K hK, Acct.vs, hc]
      simp only [go_sem, Nat.reduceBEq, Nat.reduceEqDiff, Nat.reduceLT, Nat.reduceLeDiff, Nat.reduceAdd, Nat.reduceSub, Nat.reduceMul, reduceCtorEq, Int.reduceToNat, Int.reduceEq, Int.reduceLT, Int.reduceLE, Int.reduceNe, Int.reduceNeg , or_self, or_false, false_or , List.length_map, hget K hK, Acct.vs, Int.cast_ofNat_Int]
      refine ALoop.by (S := Nat × T3 × Heap) (fun s => [(10, .d (.int .i64 (a.p1.lo + (s.1 : Nat)))), (1, .d (.int .i64 1)), (2, .d (.int .i64 left)), (3, .ptr n 0), (4, .ptr (n + 1) 0), (5, .ptr (n + 2) 0), (6, .ptr (n + 3) 0)])
        (fun s => s.2.2 ++ [.cells s.2.1.vs]) (fun s => (a.p1.hi + 1 - a.p1.lo).toNat - s.1)
        (fun s => (∀ n0, s.2.1.set 1 n0 = t.set 1 n0) ∧ I ((((loHi a.p1).drop s.1).flatMap fun n0 => truF a r 2 (t.set 1 n0) (wr (left - wr (n0 * a.s1)))).map truI ++ rest) s.2.2) (0, t, K) (by simp [hK.len]) (fun _ h => nomatch h) ⟨fun _ => rfl, hi⟩ ?_ ?_
      · exact ForgetTo.same (by simp [hK.len]) (by simp [EWe, Env.look])
      · rintro ⟨j, t', K'⟩ ⟨hset, hi'⟩ hn
        simp only at hset hi' hn ⊢
        have hK' := hI _ _ hi'
        refine AWP.run (fun _ => false) tt_ok (fun _ h => nomatch h) hn rfl ?_
        simp only [go_sem, Nat.reduceBEq, Nat.reduceEqDiff, Nat.reduceLT, Nat.reduceLeDiff, Nat.reduceAdd, Nat.reduceSub, Nat.reduceMul, reduceCtorEq, Int.reduceToNat, Int.reduceEq, Int.reduceLT, Int.reduceLE, Int.reduceNe, Int.reduceNeg , or_self, or_false, false_or , List.length_map, hget K' hK', Acct.vs, Int.cast_ofNat_Int]
        refine Br_split (fun hd => ?_) (fun hd => ?_)
        · have hle : a.p1.lo + (j : Nat) ≤ a.p1.hi := by simpa using hd
          simp only [go_sem, Nat.reduceBEq, Nat.reduceEqDiff, Nat.reduceLT, Nat.reduceLeDiff, Nat.reduceAdd, Nat.reduceSub, Nat.reduceMul, reduceCtorEq, Int.reduceToNat, Int.reduceEq, Int.reduceLT, Int.reduceLE, Int.reduceNe, Int.reduceNeg , or_self, or_false, false_or , List.length_map, hget K' hK', Acct.vs, Int.cast_ofNat_Int]
          refine ADrw.treeG (fun _ => false) tt_ok (by kernel_rfl) (fun k => if k = 0 ∨ k = 1 ∨ k = 9 then some .L else if k = 12 then none else some .S) (.ones [0, 1, 2, 3, 4, 5, 6, 7, 8, 9, 10, 11] (.only 12 (.one 13 .done))) (by simp [hK'.len]) (fun _ h => nomatch h) rfl rfl (by kernel_rfl) ?_
          simp only [go_sem, Nat.reduceBEq, Nat.reduceEqDiff, Nat.reduceLT, Nat.reduceLeDiff, Nat.reduceAdd, Nat.reduceSub, Nat.reduceMul, reduceCtorEq, Int.reduceToNat, Int.reduceEq, Int.reduceLT, Int.reduceLE, Int.reduceNe, Int.reduceNeg , or_self, or_false, false_or , List.length_map, hget K' hK', Acct.vs, Int.cast_ofNat_Int, onV]
          rw [loHi_drop _ hle, List.flatMap_cons, List.map_append, List.append_assoc] at hi'
          have hcall := ih 2 (t.set 1 (a.p1.lo + (j : Nat))) _ _ K' (by simp only [← hk]; omega) hi'
          rw [← hset] at hcall
          rw [show IntKind.i64.wrap (1 + 1) = 2 from rfl]
          refine (tru_frame hyn hI hQ (X := [.cells (t'.set 1 (a.p1.lo + (j : Nat))).vs]) hK' (by simp [VB, VBs]) (by simp [VB, VBs]) (ACallV.of rfl hcall)).mono ?_
          rintro v H' ⟨K1, rfl, hK1, hp⟩
          have ht : (K1 ++ [Blk.cells (t'.set 1 (a.p1.lo + (j : Nat))).vs]).take (n + 3) = K1 := by rw [← hK1.len]; simp
          simp only [go_sem, Nat.reduceBEq, Nat.reduceEqDiff, Nat.reduceLT, Nat.reduceLeDiff, Nat.reduceAdd, Nat.reduceSub, Nat.reduceMul, reduceCtorEq, Int.reduceToNat, Int.reduceEq, Int.reduceLT, Int.reduceLE, Int.reduceNe, Int.reduceNeg , or_self, or_false, false_or , List.length_map] at ht
          rcases hp with ⟨rfl, h⟩ | ⟨rfl, h⟩
          · simp only [go_sem, Nat.reduceBEq, Nat.reduceEqDiff, Nat.reduceLT, Nat.reduceLeDiff, Nat.reduceAdd, Nat.reduceSub, Nat.reduceMul, reduceCtorEq, Int.reduceToNat, Int.reduceEq, Int.reduceLT, Int.reduceLE, Int.reduceNe, Int.reduceNeg , or_self, or_false, false_or , List.length_map]
            refine ⟨(j + 1, t'.set 1 (a.p1.lo + (j : Nat)), K1), ⟨fun n0 => by rw [T3.set_set]; exact hset n0, h⟩, by simp only; omega, ?_⟩
            refine ForgetTo.same (by simp [hK1.len]) ?_
            simp [EWe, Env.look, w64 (n := a.p1.lo + ((j : Int) + 1)) (by omega) (by omega), Int.add_assoc]
          · simp only [go_sem, Nat.reduceBEq, Nat.reduceEqDiff, Nat.reduceLT, Nat.reduceLeDiff, Nat.reduceAdd, Nat.reduceSub, Nat.reduceMul, reduceCtorEq, Int.reduceToNat, Int.reduceEq, Int.reduceLT, Int.reduceLE, Int.reduceNe, Int.reduceNeg , or_self, or_false, false_or , List.length_map, ht]
            exact ⟨.inr hK1.bb, .inr ⟨rfl, h⟩⟩
        · have hle : ¬ a.p1.lo + (j : Nat) ≤ a.p1.hi := by simpa using hd
          rw [loHi_end _ hle] at hi'
          have ht : (K' ++ [Blk.cells t'.vs]).take (n + 3) = K' := by rw [← hK'.len]; simp
          simp only [go_sem, Nat.reduceBEq, Nat.reduceEqDiff, Nat.reduceLT, Nat.reduceLeDiff, Nat.reduceAdd, Nat.reduceSub, Nat.reduceMul, reduceCtorEq, Int.reduceToNat, Int.reduceEq, Int.reduceLT, Int.reduceLE, Int.reduceNe, Int.reduceNeg , or_self, or_false, false_or , List.length_map] at ht
          simp only [go_sem, Nat.reduceBEq, Nat.reduceEqDiff, Nat.reduceLT, Nat.reduceLeDiff, Nat.reduceAdd, Nat.reduceSub, Nat.reduceMul, reduceCtorEq, Int.reduceToNat, Int.reduceEq, Int.reduceLT, Int.reduceLE, Int.reduceNe, Int.reduceNeg , or_self, or_false, false_or , List.length_map, ht]
          exact ⟨.inr hK'.bb, .inl ⟨rfl, hi'⟩⟩

    · have hsp : a.sp 2 = a.p2 := rfl
      have hsg : a.sg 2 = a.s2 := rfl
      have hlo := ha.lo 2
      have hhi := ha.hi 2
      rw [hsp] at hlo hhi
      have hget : ∀ (K : Heap), TruK a yv n K → ∀ (w : Blk), (K ++ [w])[n]? = some (.cells a.vs) ∧ (K ++ [w])[n + 2]? = some (.cells [onV n]) ∧ (K ++ [w])[n + 3]? = some w ∧ (∀ w', (K ++ [w]).set (n + 3) w' = K ++ [w']) := fun K hK w =>
        ⟨by rw [List.getElem?_append_left (by have := hK.len; omega)]; exact hK.g0, by rw [List.getElem?_append_left (by have := hK.len; omega)]; exact hK.g2, by rw [← hK.len]; simp, fun w' => by rw [← hK.len]; simp⟩
      refine ACalls.run (fun _ => false) tt_ok (fn := f97) (rs := [.tmp 9]) rfl rfl rfl rfl rfl rfl rfl ?_
      simp only [go_sem, Nat.reduceBEq, Nat.reduceEqDiff, Nat.reduceLT, Nat.reduceLeDiff, Nat.reduceAdd, Nat.reduceSub, Nat.reduceMul, reduceCtorEq, Int.reduceToNat, Int.reduceEq, Int.reduceLT, Int.reduceLE, Int.reduceNe, Int.reduceNeg , or_self, or_false, false_or , List.length_map, T3.d, hK.len, hget K hK, Acct.vs, hc]
      simp only [go_sem, Nat.reduceBEq, Nat.reduceEqDiff, Nat.reduceLT, Nat.reduceLeDiff, Nat.reduceAdd, Nat.reduceSub, Nat.reduceMul, reduceCtorEq, Int.reduceToNat, Int.reduceEq, Int.reduceLT, Int.reduceLE, Int.reduceNe, Int.reduceNeg , or_self, or_false, false_or , List.length_map, hget K hK, Acct.vs, Int.cast_ofNat_Int]
      refine ALoop.by (S := Nat × T3 × Heap) (fun s => [(10, .d (.int .i64 (a.p2.lo + (s.1 : Nat)))), (1, .d (.int .i64 2)), (2, .d (.int .i64 left)), (3, .ptr n 0), (4, .ptr (n + 1) 0), (5, .ptr (n + 2) 0), (6, .ptr (n + 3) 0)])
        (fun s => s.2.2 ++ [.cells s.2.1.vs]) (fun s => (a.p2.hi + 1 - a.p2.lo).toNat - s.1)
        (fun s => (∀ n0, s.2.1.set 2 n0 = t.set 2 n0) ∧ I ((((loHi a.p2).drop s.1).flatMap fun n0 => truF a r 3 (t.set 2 n0) (wr (left - wr (n0 * a.s2)))).map truI ++ rest) s.2.2) (0, t, K) (by simp [hK.len]) (fun _ h => nomatch h) ⟨fun _ => rfl, hi⟩ ?_ ?_
      · exact ForgetTo.same (by simp [hK.len]) (by simp [EWe, Env.look])
      · rintro ⟨j, t', K'⟩ ⟨hset, hi'⟩ hn
        simp only at hset hi' hn ⊢
        have hK' := hI _ _ hi'
        refine AWP.run (fun _ => false) tt_ok (fun _ h => nomatch h) hn rfl ?_
        simp only [go_sem, Nat.reduceBEq, Nat.reduceEqDiff, Nat.reduceLT, Nat.reduceLeDiff, Nat.reduceAdd, Nat.reduceSub, Nat.reduceMul, reduceCtorEq, Int.reduceToNat, Int.reduceEq, Int.reduceLT, Int.reduceLE, Int.reduceNe, Int.reduceNeg , or_self, or_false, false_or , List.length_map, hget K' hK', Acct.vs, Int.cast_ofNat_Int]
        refine Br_split (fun hd => ?_) (fun hd => ?_)
        · have hle : a.p2.lo + (j : Nat) ≤ a.p2.hi := by simpa using hd
          simp only [go_sem, Nat.reduceBEq, Nat.reduceEqDiff, Nat.reduceLT, Nat.reduceLeDiff, Nat.reduceAdd, Nat.reduceSub, Nat.reduceMul, reduceCtorEq, Int.reduceToNat, Int.reduceEq, Int.reduceLT, Int.reduceLE, Int.reduceNe, Int.reduceNeg , or_self, or_false, false_or , List.length_map, hget K' hK', Acct.vs, Int.cast_ofNat_Int]
          refine ADrw.treeG (fun _ => false) tt_ok (by kernel_rfl) (fun k => if k = 0 ∨ k = 1 ∨ k = 9 then some .L else if k = 12 then none else some .S) (.ones [0, 1, 2, 3, 4, 5, 6, 7, 8, 9, 10, 11] (.only 12 (.one 13 .done))) (by simp [hK'.len]) (fun _ h => nomatch h) rfl rfl (by kernel_rfl) ?_
          simp only [go_sem, Nat.reduceBEq, Nat.reduceEqDiff, Nat.reduceLT, Nat.reduceLeDiff, Nat.reduceAdd, Nat.reduceSub, Nat.reduceMul, reduceCtorEq, Int.reduceToNat, Int.reduceEq, Int.reduceLT, Int.reduceLE, Int.reduceNe, Int.reduceNeg , or_self, or_false, false_or , List.length_map, hget K' hK', Acct.vs, Int.cast_ofNat_Int, onV]
          rw [loHi_drop _ hle, List.flatMap_cons, List.map_append, List.append_assoc] at hi'
          have hcall := ih 3 (t.set 2 (a.p2.lo + (j : Nat))) _ _ K' (by simp only [← hk]; omega) hi'
          rw [← hset] at hcall
          rw [show IntKind.i64.wrap (2 + 1) = 3 from rfl]
          refine (tru_frame hyn hI hQ (X := [.cells (t'.set 2 (a.p2.lo + (j : Nat))).vs]) hK' (by simp [VB, VBs]) (by simp [VB, VBs]) (ACallV.of rfl hcall)).mono ?_
          rintro v H' ⟨K1, rfl, hK1, hp⟩
          have ht : (K1 ++ [Blk.cells (t'.set 2 (a.p2.lo + (j : Nat))).vs]).take (n + 3) = K1 := by rw [← hK1.len]; simp
          simp only [go_sem, Nat.reduceBEq, Nat.reduceEqDiff, Nat.reduceLT, Nat.reduceLeDiff, Nat.reduceAdd, Nat.reduceSub, Nat.reduceMul, reduceCtorEq, Int.reduceToNat, Int.reduceEq, Int.reduceLT, Int.reduceLE, Int.reduceNe, Int.reduceNeg , or_self, or_false, false_or , List.length_map] at ht
          rcases hp with ⟨rfl, h⟩ | ⟨rfl, h⟩
          · simp only [go_sem, Nat.reduceBEq, Nat.reduceEqDiff, Nat.reduceLT, Nat.reduceLeDiff, Nat.reduceAdd, Nat.reduceSub, Nat.reduceMul, reduceCtorEq, Int.reduceToNat, Int.reduceEq, Int.reduceLT, Int.reduceLE, Int.reduceNe, Int.reduceNeg , or_self, or_false, false_or , List.length_map]
            refine ⟨(j + 1, t'.set 2 (a.p2.lo + (j : Nat)), K1), ⟨fun n0 => by rw [T3.set_set]; exact hset n0, h⟩, by simp only; omega, ?_⟩
            refine ForgetTo.same (by simp [hK1.len]) ?_
            simp [EWe, Env.look, w64 (n := a.p2.lo + ((j : Int) + 1)) (by omega) (by omega), Int.add_assoc]
          · simp only [go_sem, Nat.reduceBEq, Nat.reduceEqDiff, Nat.reduceLT, Nat.reduceLeDiff, Nat.reduceAdd, Nat.reduceSub, Nat.reduceMul, reduceCtorEq, Int.reduceToNat, Int.reduceEq, Int.reduceLT, Int.reduceLE, Int.reduceNe, Int.reduceNeg , or_self, or_false, false_or , List.length_map, ht]
            exact ⟨.inr hK1.bb, .inr ⟨rfl, h⟩⟩
        · have hle : ¬ a.p2.lo + (j : Nat) ≤ a.p2.hi := by simpa using hd
          rw [loHi_end _ hle] at hi'
          have ht : (K' ++ [Blk.cells t'.vs]).take (n + 3) = K' := by rw [← hK'.len]; simp
          simp only [go_sem, Nat.reduceBEq, Nat.reduceEqDiff, Nat.reduceLT, Nat.reduceLeDiff, Nat.reduceAdd, Nat.reduceSub, Nat.reduceMul, reduceCtorEq, Int.reduceToNat, Int.reduceEq, Int.reduceLT, Int.reduceLE, Int.reduceNe, Int.reduceNeg , or_self, or_false, false_or , List.length_map] at ht
          simp only [go_sem, Nat.reduceBEq, Nat.reduceEqDiff, Nat.reduceLT, Nat.reduceLeDiff, Nat.reduceAdd, Nat.reduceSub, Nat.reduceMul, reduceCtorEq, Int.reduceToNat, Int.reduceEq, Int.reduceLT, Int.reduceLE, Int.reduceNe, Int.reduceNeg , or_self, or_false, false_or , List.length_map, ht]
          exact ⟨.inr hK'.bb, .inl ⟨rfl, hi'⟩⟩

end

/-- The function value that truths is, of an account. -/
def truV (a : Acct) : V := .fn (.func 91) [.d a.d] []

def truItems (a : Acct) : List (List V) := (truF a a.kinds.toNat 0 ⟨0, 0, 0⟩ a.sum).map truI

theorem c91 (a : Acct) (ha : a.Ok) : Iter prog (truV a) (truItems a) := by
  intro yv n I Q hf hyv hI hy hend H hH
  have hHl := (hI _ _ hH).1
  have hHb := (hI _ _ hH).2
  obtain ⟨f, x, y, rfl⟩ := hf
  refine ACallV.of rfl ?_
  refine ACalls.run (fun _ => false) tt_ok (fn := f91) (rs := []) rfl rfl rfl rfl rfl rfl rfl ?_
  have e0 : ∀ l : Heap, (H ++ l)[n]? = l[0]? := fun l => by rw [List.getElem?_append_right (by omega), hHl, Nat.sub_self]
  have e1 : ∀ l : Heap, (H ++ l)[n + 1]? = l[1]? := fun l => by rw [List.getElem?_append_right (by omega), hHl]; congr 1; omega
  have e2 : ∀ l : Heap, (H ++ l)[n + 2]? = l[2]? := fun l => by rw [List.getElem?_append_right (by omega), hHl]; congr 1; omega
  have s2 : ∀ (l : Heap) (w : Blk), (H ++ l).set (n + 2) w = H ++ l.set 2 w := fun l w => by rw [List.set_append_right _ _ (by omega), hHl]; congr 2; omega
  have st : ∀ l : Heap, (H ++ l).take n = H := fun l => by rw [← hHl]; simp
  simp only [go_sem, Nat.reduceBEq, Nat.reduceEqDiff, Nat.reduceLT, Nat.reduceLeDiff, Nat.reduceAdd, Nat.reduceSub, Nat.reduceMul, reduceCtorEq, Int.reduceToNat, Int.reduceEq, Int.reduceLT, Int.reduceLE, Int.reduceNe, Int.reduceNeg , or_self, or_false, false_or , List.length_map, Acct.d, Acct.cs, List.append_assoc, List.length_append, hHl, e0, e1, e2, s2]
  have hk : ((a.kinds.toNat : Nat) : Int) = a.kinds := Int.toNat_of_nonneg ha.k0
  have tail : ∀ Hs : Heap, Hs.length = n → BBs n Hs → TruK a (.fn f x y) n (Hs ++ [.cells a.vs, .cells [.fn f x y], .cells [onV n]]) := fun Hs hl hb =>
    ⟨by simp [hl], by rw [← hl]; simp, by rw [List.getElem?_append_right (by omega), hl, show n + 1 - n = 1 by omega]; rfl, by rw [List.getElem?_append_right (by omega), hl, show n + 2 - n = 2 by omega]; rfl,
      BBs_append (BBs_le (by omega) hb) ⟨rfl, by simp only [BB, VBs, Bool.and_true]; exact VB_le (by omega) _ hyv, by simp [BB, VBs, onV, VB], trivial⟩⟩
  have := c97 (a := a) (yv := .fn f x y) (n := n) (I := fun l K => ∃ Hs, K = Hs ++ [.cells a.vs, .cells [.fn f x y], .cells [onV n]] ∧ I l Hs) (Q := fun K => ∃ Hs, K = Hs ++ [.cells a.vs, .cells [.fn f x y], .cells [onV n]] ∧ Hs.length = n ∧ BBs n Hs ∧ Q (.tup []) Hs)
    ha hyv (fun l K ⟨Hs, h1, h2⟩ => h1 ▸ tail Hs (hI _ _ h2).1 (hI _ _ h2).2) (fun K ⟨Hs, h1, h2, h3, _⟩ => h1 ▸ tail Hs h2 h3)
    (by
      rintro p rest K ⟨Hs, rfl, hi⟩
      have hl := (hI _ _ hi).1
      refine (ACallV.frame (fun id b hb => BB_le (by omega) (BBs_get (hI _ _ hi).2 id b hb)) (by rw [hl]; exact hyv) rfl (fun v H' hv => ?_) (hy _ _ _ hi)).mono ?_
      · rcases hv with ⟨_, h⟩ | ⟨_, h, _⟩
        · rw [(hI _ _ h).1, hl]
        · rw [h, hl]
      · rintro v H' ⟨H1, rfl, hp⟩
        rcases hp with ⟨h1, h2⟩ | ⟨h1, h2⟩
        · exact .inl ⟨h1, H1, rfl, h2⟩
        · exact .inr ⟨h1, H1, rfl, h2⟩)
    a.kinds.toNat 0 ⟨0, 0, 0⟩ a.sum [] (H ++ [.cells a.vs, .cells [.fn f x y], .cells [onV n]]) (by simpa using hk) ⟨H, rfl, by rw [List.append_nil]; exact hH⟩
  refine (ACallV.of rfl this : ACallV prog (.fn (.func 97) [] [.ptr n 0, .ptr (n + 1) 0, .ptr (n + 2) 0]) _ _ _).mono ?_
  rintro v K hp
  have : ∃ Hs, K = Hs ++ [.cells a.vs, .cells [.fn f x y], .cells [onV n]] ∧ Hs.length = n ∧ BBs n Hs ∧ Q (.tup []) Hs := by
    rcases hp with ⟨_, Hs, h1, h2⟩ | ⟨_, h⟩
    · exact ⟨Hs, h1, (hI _ _ h2).1, (hI _ _ h2).2, hend _ h2⟩
    · exact h
  obtain ⟨Hs, rfl, h1, h2, h3⟩ := this
  have ht : ∀ l : Heap, (Hs ++ l).take n = Hs := fun l => by rw [← h1]; simp
  simp only [go_sem, Nat.reduceBEq, Nat.reduceEqDiff, Nat.reduceLT, Nat.reduceLeDiff, Nat.reduceAdd, Nat.reduceSub, Nat.reduceMul, reduceCtorEq, Int.reduceToNat, Int.reduceEq, Int.reduceLT, Int.reduceLE, Int.reduceNe, Int.reduceNeg , or_self, or_false, false_or , List.length_map, hHl, ht]
  exact ⟨.inr h2, h3⟩
end Go.Aw
end
