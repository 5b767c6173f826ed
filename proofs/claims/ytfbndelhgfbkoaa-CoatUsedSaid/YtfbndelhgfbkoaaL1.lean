/- The types of the program, as the evaluator sees them. Small functions. within, isSpan, Check; the reference's Valid. Valid works; coats, counts, spans of them, and how a sign comes out. Sorting by insertion. How thick coats can be: sums, slip by slip. How thick coats are, and how a sign comes out. Thick. Coats. Lists cloned and compared. The planner. The planner; Plan. Jobs: what they take. Uses, done, Done. done, Done. Stuff; the mixer. The mixer; Mix. Grow, Concat. Weighings. -/
import Derived.Test.YtfbndelhgfbkoaaA6
import Derived.Test.YtfbndelhgfbkoaaProg
import Derived.KernelRfl
import Derived.Shelf.Spec.SlicesGrow
set_option linter.unusedSimpArgs false
set_option linter.unusedVariables false

section
set_option maxRecDepth 100000
namespace Go.Aw
open Go

def tlook : List (Nat × Ty) → Nat → Ty
  | [], _ => .no
  | (k, x) :: r, t => if k = t then x else tlook r t

def tgood (P : Program) : List (Nat × Ty) → Prop
  | [] => True
  | (k, x) :: r => x = tyOf P k ∧ tgood P r

theorem tlook_ok {P : Program} : ∀ (l : List (Nat × Ty)), tgood P l → TOK P (tlook l)
  | [], _, _ => trivial
  | (k, x) :: r, h, t => by
    simp only [tlook]
    split
    · rename_i e; subst e; rw [h.1]; exact tok P _
    · exact tlook_ok r h.2 t

def ttab : List (Nat × Ty) := [
  (1, Ty.sc D.nilf),
  (2, Ty.sc (D.int IntKind.i64 0)),
  (3, Ty.sc (D.int IntKind.i64 0)),
  (4, Ty.sc (D.bool false)),
  (5, Ty.sc (D.int IntKind.u8 0)),
  (6, Ty.sc (D.int IntKind.u8 0)),
  (7, Ty.st 4 [(0, 1, 2), (1, 1, 3), (2, 1, 4), (3, 1, 6)] [D.int IntKind.i64 0, D.int IntKind.i64 0, D.bool false, D.int IntKind.u8 0] true),
  (8, Ty.st 4 [(0, 1, 2), (1, 1, 3), (2, 1, 4), (3, 1, 6)] [D.int IntKind.i64 0, D.int IntKind.i64 0, D.bool false, D.int IntKind.u8 0] true),
  (9, Ty.sc (D.str ⟨#[]⟩)),
  (10, Ty.sc (D.str ⟨#[]⟩)),
  (11, Ty.sc (D.str ⟨#[]⟩)),
  (12, Ty.sc (D.int IntKind.u64 0)),
  (13, Ty.st 2 [(0, 1, 9), (1, 1, 12)] [D.str ⟨#[]⟩, D.int IntKind.u64 0] false),
  (14, Ty.st 2 [(0, 1, 9), (1, 1, 12)] [D.str ⟨#[]⟩, D.int IntKind.u64 0] false),
  (15, Ty.sc D.nilp),
  (16, Ty.sc D.nilp),
  (17, Ty.sc D.nilp),
  (18, Ty.st 1 [(0, 1, 17)] [D.nilp] false),
  (19, Ty.st 1 [(0, 1, 17)] [D.nilp] false),
  (21, Ty.sc (D.int IntKind.i32 0)),
  (22, Ty.sl 5 (D.agg [D.int IntKind.i64 0, D.int IntKind.i64 0, D.int IntKind.i64 0, D.int IntKind.i64 0, D.int IntKind.i64 0])),
  (23, Ty.st 3 [(0, 1, 22), (1, 1, 3), (2, 1, 3)] [D.sl [], D.int IntKind.i64 0, D.int IntKind.i64 0] false),
  (24, Ty.st 3 [(0, 1, 22), (1, 1, 3), (2, 1, 3)] [D.sl [], D.int IntKind.i64 0, D.int IntKind.i64 0] false),
  (25, Ty.sl 1 (D.int IntKind.i64 0)),
  (26, Ty.sc D.nilf),
  (27, Ty.sc D.nilf),
  (28, Ty.sc (D.int IntKind.i64 0)),
  (29, Ty.sc D.nilf),
  (30, Ty.st 2 [(0, 1, 3), (1, 1, 3)] [D.int IntKind.i64 0, D.int IntKind.i64 0] true),
  (31, Ty.st 2 [(0, 1, 3), (1, 1, 3)] [D.int IntKind.i64 0, D.int IntKind.i64 0] true),
  (32, Ty.sl 1 (D.int IntKind.i64 0)),
  (34, Ty.sc D.nilf),
  (35, Ty.sc D.nilf),
  (36, Ty.sc D.nilf),
  (37, Ty.sc D.nilf),
  (38, Ty.sc D.nilf),
  (40, Ty.sc D.nilf),
  (41, Ty.sc D.nilf),
  (42, Ty.sl 2 (D.agg [D.int IntKind.i64 0, D.sl []])),
  (43, Ty.st 2 [(0, 1, 3), (1, 1, 25)] [D.int IntKind.i64 0, D.sl []] false),
  (44, Ty.st 2 [(0, 1, 3), (1, 1, 25)] [D.int IntKind.i64 0, D.sl []] false),
  (45, Ty.sc D.nilf),
  (46, Ty.sl 2 (D.agg [D.int IntKind.i64 0, D.int IntKind.i64 0])),
  (48, Ty.sc D.nilf),
  (50, Ty.sc D.nilf),
  (51, Ty.sc D.nilf),
  (52, Ty.sc D.nilf),
  (53, Ty.sc D.nilf),
  (54, Ty.sc D.nilf),
  (56, Ty.sc D.nilf),
  (57, Ty.sc D.nilf),
  (58, Ty.sl 3 (D.agg [D.int IntKind.i64 0, D.int IntKind.i64 0, D.int IntKind.i64 0])),
  (59, Ty.st 4 [(0, 1, 3), (1, 1, 3), (2, 2, 31)] [D.int IntKind.i64 0, D.int IntKind.i64 0, D.int IntKind.i64 0, D.int IntKind.i64 0] true),
  (60, Ty.st 4 [(0, 1, 3), (1, 1, 3), (2, 2, 31)] [D.int IntKind.i64 0, D.int IntKind.i64 0, D.int IntKind.i64 0, D.int IntKind.i64 0] true),
  (62, Ty.sc D.nilf),
  (63, Ty.st 3 [(0, 1, 3), (1, 1, 3), (2, 1, 3)] [D.int IntKind.i64 0, D.int IntKind.i64 0, D.int IntKind.i64 0] true),
  (64, Ty.st 3 [(0, 1, 3), (1, 1, 3), (2, 1, 3)] [D.int IntKind.i64 0, D.int IntKind.i64 0, D.int IntKind.i64 0] true),
  (65, Ty.sc D.nilf),
  (67, Ty.sc D.nilf),
  (68, Ty.sc D.nilf),
  (69, Ty.sl 4 (D.agg [D.int IntKind.i64 0, D.int IntKind.i64 0, D.int IntKind.i64 0, D.int IntKind.i64 0])),
  (70, Ty.sc D.nilf),
  (72, Ty.sc D.nilf),
  (73, Ty.st 4 [(0, 1, 3), (1, 1, 3), (2, 2, 31)] [D.int IntKind.i64 0, D.int IntKind.i64 0, D.int IntKind.i64 0, D.int IntKind.i64 0] true),
  (74, Ty.st 4 [(0, 1, 3), (1, 1, 3), (2, 2, 31)] [D.int IntKind.i64 0, D.int IntKind.i64 0, D.int IntKind.i64 0, D.int IntKind.i64 0] true),
  (75, Ty.sc D.nilf),
  (77, Ty.sc D.nilf),
  (78, Ty.sc D.nilf),
  (79, Ty.sc D.nilf),
  (80, Ty.sl 2 (D.agg [D.sl [], D.int IntKind.i64 0])),
  (81, Ty.sc (D.int IntKind.i64 0)),
  (82, Ty.st 2 [(0, 1, 25), (1, 1, 81)] [D.sl [], D.int IntKind.i64 0] false),
  (83, Ty.st 2 [(0, 1, 25), (1, 1, 81)] [D.sl [], D.int IntKind.i64 0] false),
  (84, Ty.sc D.nilf),
  (85, Ty.sc D.nilf),
  (86, Ty.sc D.nilf),
  (87, Ty.sc D.nilf),
  (88, Ty.sc D.nilf),
  (89, Ty.sc D.nilf),
  (90, Ty.sl 5 (D.agg [D.int IntKind.u8 0, D.int IntKind.u8 0, D.int IntKind.u8 0, D.int IntKind.u8 0, D.int IntKind.u8 0])),
  (91, Ty.ar 2 1 5 [D.int IntKind.u8 0, D.int IntKind.u8 0] false),
  (92, Ty.st 3 [(0, 1, 90), (1, 2, 91)] [D.sl [], D.int IntKind.u8 0, D.int IntKind.u8 0] false),
  (93, Ty.st 3 [(0, 1, 90), (1, 2, 91)] [D.sl [], D.int IntKind.u8 0, D.int IntKind.u8 0] false),
  (94, Ty.sl 1 (D.int IntKind.u8 0)),
  (96, Ty.sc D.nilf),
  (97, Ty.sc D.nilf),
  (98, Ty.sc D.nilf),
  (100, Ty.sc D.nilf),
  (101, Ty.sc D.nilf),
  (102, Ty.sc D.nilf),
  (103, Ty.sc D.nilf),
  (104, Ty.sc D.nilf),
  (105, Ty.ar 2 1 94 [D.sl [], D.sl []] false),
  (106, Ty.sc D.nilf),
  (107, Ty.st 5 [(0, 2, 31), (2, 2, 31), (4, 1, 3)] [D.int IntKind.i64 0, D.int IntKind.i64 0, D.int IntKind.i64 0, D.int IntKind.i64 0, D.int IntKind.i64 0] true),
  (108, Ty.st 5 [(0, 2, 31), (2, 2, 31), (4, 1, 3)] [D.int IntKind.i64 0, D.int IntKind.i64 0, D.int IntKind.i64 0, D.int IntKind.i64 0, D.int IntKind.i64 0] true),
  (110, Ty.sc D.nilf),
  (111, Ty.sc D.nilf),
  (112, Ty.sl 4 (D.agg [D.int IntKind.u8 0, D.int IntKind.u8 0, D.int IntKind.u8 0, D.int IntKind.u8 0])),
  (113, Ty.sc (D.int IntKind.u16 0)),
  (114, Ty.ar 4 1 113 [D.int IntKind.u16 0, D.int IntKind.u16 0, D.int IntKind.u16 0, D.int IntKind.u16 0] false),
  (115, Ty.ar 4 1 5 [D.int IntKind.u8 0, D.int IntKind.u8 0, D.int IntKind.u8 0, D.int IntKind.u8 0] false),
  (116, Ty.sc D.nilf),
  (117, Ty.sl 3 (D.agg [D.int IntKind.u8 0, D.int IntKind.u8 0, D.int IntKind.u8 0])),
  (118, Ty.ar 3 1 5 [D.int IntKind.u8 0, D.int IntKind.u8 0, D.int IntKind.u8 0] false),
  (120, Ty.sc D.nilf),
  (121, Ty.sc D.nilf),
  (122, Ty.sc D.nilf),
  (123, Ty.sc D.nilf),
  (124, Ty.sl 1 (D.sl [])),
  (125, Ty.sc D.nilf),
  (126, Ty.sc D.nilf),
  (127, Ty.sc D.nilf),
  (128, Ty.sc D.nilf),
  (129, Ty.sc D.nilf),
  (130, Ty.sc D.nilf),
  (131, Ty.sc D.nilf),
  (132, Ty.st 3 [(0, 3, 24)] [D.sl [], D.int IntKind.i64 0, D.int IntKind.i64 0] false),
  (133, Ty.st 3 [(0, 3, 24)] [D.sl [], D.int IntKind.i64 0, D.int IntKind.i64 0] false),
  (135, Ty.sc D.nilf),
  (136, Ty.sc D.nilf),
  (137, Ty.ar 4 1 3 [D.int IntKind.i64 0, D.int IntKind.i64 0, D.int IntKind.i64 0, D.int IntKind.i64 0] false),
  (138, Ty.ar 4 1 3 [D.int IntKind.i64 0, D.int IntKind.i64 0, D.int IntKind.i64 0, D.int IntKind.i64 0] false),
  (139, Ty.sc D.nilf),
  (140, Ty.mp (D.int IntKind.i64 0) (D.bool false)),
  (141, Ty.sc D.nilf),
  (142, Ty.sc D.nilf),
  (143, Ty.sc D.nilf),
  (144, Ty.sc D.nilf),
  (145, Ty.sc D.nilf),
  (146, Ty.sc D.nilf),
  (147, Ty.sl 1 (D.sl [])),
  (148, Ty.sc D.nilf),
  (149, Ty.ar 4 1 4 [D.bool false, D.bool false, D.bool false, D.bool false] false),
  (150, Ty.sc D.nilf),
  (151, Ty.sc D.nilf),
  (152, Ty.sl 1 (D.sl [])),
  (154, Ty.sc D.nilf),
  (155, Ty.sc D.nilf),
  (156, Ty.sc D.nilf),
  (157, Ty.sc D.nilf),
  (158, Ty.sc D.nilf),
  (159, Ty.sc D.nilf),
  (160, Ty.sc D.nilp),
  (161, Ty.st 8 [(0, 1, 58), (1, 4, 60), (5, 1, 25), (6, 1, 3), (7, 1, 4)] [D.sl [], D.int IntKind.i64 0, D.int IntKind.i64 0, D.int IntKind.i64 0, D.int IntKind.i64 0, D.sl [], D.int IntKind.i64 0, D.bool false] false),
  (162, Ty.st 8 [(0, 1, 58), (1, 4, 60), (5, 1, 25), (6, 1, 3), (7, 1, 4)] [D.sl [], D.int IntKind.i64 0, D.int IntKind.i64 0, D.int IntKind.i64 0, D.int IntKind.i64 0, D.sl [], D.int IntKind.i64 0, D.bool false] false),
  (163, Ty.sc D.nilf),
  (164, Ty.st 3 [(0, 1, 3), (1, 1, 3), (2, 1, 3)] [D.int IntKind.i64 0, D.int IntKind.i64 0, D.int IntKind.i64 0] true),
  (165, Ty.st 3 [(0, 1, 3), (1, 1, 3), (2, 1, 3)] [D.int IntKind.i64 0, D.int IntKind.i64 0, D.int IntKind.i64 0] true),
  (166, Ty.sc D.nilf),
  (168, Ty.sc D.nilf),
  (169, Ty.st 5 [(0, 3, 133), (3, 1, 69), (4, 1, 3)] [D.sl [], D.int IntKind.i64 0, D.int IntKind.i64 0, D.sl [], D.int IntKind.i64 0] false),
  (170, Ty.st 5 [(0, 3, 133), (3, 1, 69), (4, 1, 3)] [D.sl [], D.int IntKind.i64 0, D.int IntKind.i64 0, D.sl [], D.int IntKind.i64 0] false),
  (172, Ty.sc D.nilf),
  (173, Ty.sc D.nilf),
  (174, Ty.sc D.nilf),
  (175, Ty.sc D.nilf),
  (176, Ty.sc D.nilf),
  (177, Ty.sc (D.int IntKind.u64 0)),
  (178, Ty.sc D.nilf),
  (179, Ty.sc D.nilf),
  (180, Ty.sc D.nilf),
  (181, Ty.sl 4 (D.agg [D.int IntKind.i64 0, D.int IntKind.i64 0, D.int IntKind.i64 0, D.int IntKind.i64 0])),
  (182, Ty.sc D.nilf),
  (183, Ty.ar 5 1 5 [D.int IntKind.u8 0, D.int IntKind.u8 0, D.int IntKind.u8 0, D.int IntKind.u8 0, D.int IntKind.u8 0] false),
  (184, Ty.sc D.nilp),
  (185, Ty.st 11 [(0, 3, 133), (3, 4, 138), (7, 1, 3), (8, 1, 25), (9, 1, 3), (10, 1, 4)] [D.sl [], D.int IntKind.i64 0, D.int IntKind.i64 0, D.int IntKind.i64 0, D.int IntKind.i64 0, D.int IntKind.i64 0, D.int IntKind.i64 0, D.int IntKind.i64 0, D.sl [], D.int IntKind.i64 0, D.bool false] false),
  (186, Ty.st 11 [(0, 3, 133), (3, 4, 138), (7, 1, 3), (8, 1, 25), (9, 1, 3), (10, 1, 4)] [D.sl [], D.int IntKind.i64 0, D.int IntKind.i64 0, D.int IntKind.i64 0, D.int IntKind.i64 0, D.int IntKind.i64 0, D.int IntKind.i64 0, D.int IntKind.i64 0, D.sl [], D.int IntKind.i64 0, D.bool false] false),
  (187, Ty.sc D.nilf),
  (188, Ty.sc D.nilf),
  (189, Ty.sc D.nilf),
  (190, Ty.sc D.nilf),
  (191, Ty.sc D.nilf),
  (192, Ty.sc D.nilf),
  (193, Ty.sc D.nilf),
  (194, Ty.sc D.nilf),
  (195, Ty.sc D.nilf),
  (196, Ty.sc D.nilf),
  (197, Ty.sc D.nilf),
  (198, Ty.sc D.nilf),
  (199, Ty.sc D.nilf),
  (200, Ty.sc D.nilf),
  (201, Ty.sc D.nilf),
  (202, Ty.sc D.nilp),
  (203, Ty.sc D.nilf),
  (204, Ty.sc D.nilf),
  (205, Ty.sc D.nilf),
  (206, Ty.sc D.nilf),
  (207, Ty.sc D.nilf),
  (208, Ty.sc (D.int IntKind.i64 0)),
  (210, Ty.sc D.nilf),
  (211, Ty.sc D.nilf),
  (212, Ty.sc D.nilf),
  (213, Ty.sc D.nilf),
  (215, Ty.sc D.nilf),
  (216, Ty.sc D.nilf),
  (217, Ty.sc (D.int IntKind.u32 0)),
  (218, Ty.sc D.nilf),
  (219, Ty.sc (D.int IntKind.u64 0)),
  (220, Ty.sc D.nilf),
  (221, Ty.sc D.nilf),
  (222, Ty.sc D.nilf),
  (223, Ty.sc D.nilf),
  (224, Ty.sc (D.int IntKind.u64 0)),
  (225, Ty.sc D.nilf),
  (226, Ty.sc D.nilf),
  (227, Ty.sc D.nilf),
  (228, Ty.sc D.nilp),
  (229, Ty.sc D.nilf),
  (230, Ty.sc D.nilf),
  (231, Ty.sc D.nilp),
  (232, Ty.sc D.nilf),
  (233, Ty.sc D.nilf),
  (234, Ty.st 4 [(0, 1, 17), (1, 1, 17), (2, 1, 17), (3, 1, 9)] [D.nilp, D.nilp, D.nilp, D.str ⟨#[]⟩] false),
  (235, Ty.st 4 [(0, 1, 17), (1, 1, 17), (2, 1, 17), (3, 1, 9)] [D.nilp, D.nilp, D.nilp, D.str ⟨#[]⟩] false),
  (236, Ty.ar 0 1 16 [] false),
  (239, Ty.sc D.nilf),
  (240, Ty.sc (D.int IntKind.u8 0)),
  (241, Ty.sc (D.int IntKind.u8 0)),
  (242, Ty.sc D.nilf),
  (243, Ty.sc D.nilp),
  (244, Ty.sc (D.int IntKind.i32 0)),
  (245, Ty.sc (D.int IntKind.i32 0)),
  (246, Ty.st 11 [(0, 1, 12), (1, 1, 12), (2, 1, 217), (3, 1, 240), (4, 1, 5), (5, 1, 5), (6, 1, 241), (7, 1, 242), (8, 1, 243), (9, 1, 244), (10, 1, 245)] [D.int IntKind.u64 0, D.int IntKind.u64 0, D.int IntKind.u32 0, D.int IntKind.u8 0, D.int IntKind.u8 0, D.int IntKind.u8 0, D.int IntKind.u8 0, D.nilf, D.nilp, D.int IntKind.i32 0, D.int IntKind.i32 0] false),
  (247, Ty.st 11 [(0, 1, 12), (1, 1, 12), (2, 1, 217), (3, 1, 240), (4, 1, 5), (5, 1, 5), (6, 1, 241), (7, 1, 242), (8, 1, 243), (9, 1, 244), (10, 1, 245)] [D.int IntKind.u64 0, D.int IntKind.u64 0, D.int IntKind.u32 0, D.int IntKind.u8 0, D.int IntKind.u8 0, D.int IntKind.u8 0, D.int IntKind.u8 0, D.nilf, D.nilp, D.int IntKind.i32 0, D.int IntKind.i32 0] false)]

def Tt : Nat → Ty := tlook ttab

theorem tt_ok : TOK Go.Proofs.Try.prog Tt :=
  tlook_ok ttab ⟨by kernel_rfl, by kernel_rfl, by kernel_rfl, by kernel_rfl, by kernel_rfl, by kernel_rfl, by kernel_rfl, by kernel_rfl, by kernel_rfl, by kernel_rfl, by kernel_rfl, by kernel_rfl, by kernel_rfl, by kernel_rfl, by kernel_rfl, by kernel_rfl, by kernel_rfl, by kernel_rfl, by kernel_rfl, by kernel_rfl, by kernel_rfl, by kernel_rfl, by kernel_rfl, by kernel_rfl, by kernel_rfl, by kernel_rfl, by kernel_rfl, by kernel_rfl, by kernel_rfl, by kernel_rfl, by kernel_rfl, by kernel_rfl, by kernel_rfl, by kernel_rfl, by kernel_rfl, by kernel_rfl, by kernel_rfl, by kernel_rfl, by kernel_rfl, by kernel_rfl, by kernel_rfl, by kernel_rfl, by kernel_rfl, by kernel_rfl, by kernel_rfl, by kernel_rfl, by kernel_rfl, by kernel_rfl, by kernel_rfl, by kernel_rfl, by kernel_rfl, by kernel_rfl, by kernel_rfl, by kernel_rfl, by kernel_rfl, by kernel_rfl, by kernel_rfl, by kernel_rfl, by kernel_rfl, by kernel_rfl, by kernel_rfl, by kernel_rfl, by kernel_rfl, by kernel_rfl, by kernel_rfl, by kernel_rfl, by kernel_rfl, by kernel_rfl, by kernel_rfl, by kernel_rfl, by kernel_rfl, by kernel_rfl, by kernel_rfl, by kernel_rfl, by kernel_rfl, by kernel_rfl, by kernel_rfl, by kernel_rfl, by kernel_rfl, by kernel_rfl, by kernel_rfl, by kernel_rfl, by kernel_rfl, by kernel_rfl, by kernel_rfl, by kernel_rfl, by kernel_rfl, by kernel_rfl, by kernel_rfl, by kernel_rfl, by kernel_rfl, by kernel_rfl, by kernel_rfl, by kernel_rfl, by kernel_rfl, by kernel_rfl, by kernel_rfl, by kernel_rfl, by kernel_rfl, by kernel_rfl, by kernel_rfl, by kernel_rfl, by kernel_rfl, by kernel_rfl, by kernel_rfl, by kernel_rfl, by kernel_rfl, by kernel_rfl, by kernel_rfl, by kernel_rfl, by kernel_rfl, by kernel_rfl, by kernel_rfl, by kernel_rfl, by kernel_rfl, by kernel_rfl, by kernel_rfl, by kernel_rfl, by kernel_rfl, by kernel_rfl, by kernel_rfl, by kernel_rfl, by kernel_rfl, by kernel_rfl, by kernel_rfl, by kernel_rfl, by kernel_rfl, by kernel_rfl, by kernel_rfl, by kernel_rfl, by kernel_rfl, by kernel_rfl, by kernel_rfl, by kernel_rfl, by kernel_rfl, by kernel_rfl, by kernel_rfl, by kernel_rfl, by kernel_rfl, by kernel_rfl, by kernel_rfl, by kernel_rfl, by kernel_rfl, by kernel_rfl, by kernel_rfl, by kernel_rfl, by kernel_rfl, by kernel_rfl, by kernel_rfl, by kernel_rfl, by kernel_rfl, by kernel_rfl, by kernel_rfl, by kernel_rfl, by kernel_rfl, by kernel_rfl, by kernel_rfl, by kernel_rfl, by kernel_rfl, by kernel_rfl, by kernel_rfl, by kernel_rfl, by kernel_rfl, by kernel_rfl, by kernel_rfl, by kernel_rfl, by kernel_rfl, by kernel_rfl, by kernel_rfl, by kernel_rfl, by kernel_rfl, by kernel_rfl, by kernel_rfl, by kernel_rfl, by kernel_rfl, by kernel_rfl, by kernel_rfl, by kernel_rfl, by kernel_rfl, by kernel_rfl, by kernel_rfl, by kernel_rfl, by kernel_rfl, by kernel_rfl, by kernel_rfl, by kernel_rfl, by kernel_rfl, by kernel_rfl, by kernel_rfl, by kernel_rfl, by kernel_rfl, by kernel_rfl, by kernel_rfl, by kernel_rfl, by kernel_rfl, by kernel_rfl, by kernel_rfl, by kernel_rfl, by kernel_rfl, by kernel_rfl, by kernel_rfl, by kernel_rfl, by kernel_rfl, by kernel_rfl, by kernel_rfl, by kernel_rfl, by kernel_rfl, by kernel_rfl, by kernel_rfl, by kernel_rfl, by kernel_rfl, by kernel_rfl, by kernel_rfl, by kernel_rfl, by kernel_rfl, by kernel_rfl, by kernel_rfl, by kernel_rfl, by kernel_rfl, by kernel_rfl, by kernel_rfl, by kernel_rfl, by kernel_rfl, by kernel_rfl, by kernel_rfl, trivial⟩

@[go_sem] theorem tt_1 : Tt 1 = Ty.sc D.nilf := (Eq.refl _).trans rfl
@[go_sem] theorem tt_2 : Tt 2 = Ty.sc (D.int IntKind.i64 0) := (Eq.refl _).trans rfl
@[go_sem] theorem tt_3 : Tt 3 = Ty.sc (D.int IntKind.i64 0) := (Eq.refl _).trans rfl
@[go_sem] theorem tt_4 : Tt 4 = Ty.sc (D.bool false) := (Eq.refl _).trans rfl
@[go_sem] theorem tt_5 : Tt 5 = Ty.sc (D.int IntKind.u8 0) := (Eq.refl _).trans rfl
@[go_sem] theorem tt_6 : Tt 6 = Ty.sc (D.int IntKind.u8 0) := (Eq.refl _).trans rfl
@[go_sem] theorem tt_7 : Tt 7 = Ty.st 4 [(0, 1, 2), (1, 1, 3), (2, 1, 4), (3, 1, 6)] [D.int IntKind.i64 0, D.int IntKind.i64 0, D.bool false, D.int IntKind.u8 0] true := (Eq.refl _).trans rfl
@[go_sem] theorem tt_8 : Tt 8 = Ty.st 4 [(0, 1, 2), (1, 1, 3), (2, 1, 4), (3, 1, 6)] [D.int IntKind.i64 0, D.int IntKind.i64 0, D.bool false, D.int IntKind.u8 0] true := (Eq.refl _).trans rfl
@[go_sem] theorem tt_9 : Tt 9 = Ty.sc (D.str ⟨#[]⟩) := (Eq.refl _).trans rfl
@[go_sem] theorem tt_10 : Tt 10 = Ty.sc (D.str ⟨#[]⟩) := (Eq.refl _).trans rfl
@[go_sem] theorem tt_11 : Tt 11 = Ty.sc (D.str ⟨#[]⟩) := (Eq.refl _).trans rfl
@[go_sem] theorem tt_12 : Tt 12 = Ty.sc (D.int IntKind.u64 0) := (Eq.refl _).trans rfl
@[go_sem] theorem tt_13 : Tt 13 = Ty.st 2 [(0, 1, 9), (1, 1, 12)] [D.str ⟨#[]⟩, D.int IntKind.u64 0] false := (Eq.refl _).trans rfl
@[go_sem] theorem tt_14 : Tt 14 = Ty.st 2 [(0, 1, 9), (1, 1, 12)] [D.str ⟨#[]⟩, D.int IntKind.u64 0] false := (Eq.refl _).trans rfl
@[go_sem] theorem tt_15 : Tt 15 = Ty.sc D.nilp := (Eq.refl _).trans rfl
@[go_sem] theorem tt_16 : Tt 16 = Ty.sc D.nilp := (Eq.refl _).trans rfl
@[go_sem] theorem tt_17 : Tt 17 = Ty.sc D.nilp := (Eq.refl _).trans rfl
@[go_sem] theorem tt_18 : Tt 18 = Ty.st 1 [(0, 1, 17)] [D.nilp] false := (Eq.refl _).trans rfl
@[go_sem] theorem tt_19 : Tt 19 = Ty.st 1 [(0, 1, 17)] [D.nilp] false := (Eq.refl _).trans rfl
@[go_sem] theorem tt_21 : Tt 21 = Ty.sc (D.int IntKind.i32 0) := (Eq.refl _).trans rfl
@[go_sem] theorem tt_22 : Tt 22 = Ty.sl 5 (D.agg [D.int IntKind.i64 0, D.int IntKind.i64 0, D.int IntKind.i64 0, D.int IntKind.i64 0, D.int IntKind.i64 0]) := (Eq.refl _).trans rfl
@[go_sem] theorem tt_23 : Tt 23 = Ty.st 3 [(0, 1, 22), (1, 1, 3), (2, 1, 3)] [D.sl [], D.int IntKind.i64 0, D.int IntKind.i64 0] false := (Eq.refl _).trans rfl
@[go_sem] theorem tt_24 : Tt 24 = Ty.st 3 [(0, 1, 22), (1, 1, 3), (2, 1, 3)] [D.sl [], D.int IntKind.i64 0, D.int IntKind.i64 0] false := (Eq.refl _).trans rfl
@[go_sem] theorem tt_25 : Tt 25 = Ty.sl 1 (D.int IntKind.i64 0) := (Eq.refl _).trans rfl
@[go_sem] theorem tt_26 : Tt 26 = Ty.sc D.nilf := (Eq.refl _).trans rfl
@[go_sem] theorem tt_27 : Tt 27 = Ty.sc D.nilf := (Eq.refl _).trans rfl
@[go_sem] theorem tt_28 : Tt 28 = Ty.sc (D.int IntKind.i64 0) := (Eq.refl _).trans rfl
@[go_sem] theorem tt_29 : Tt 29 = Ty.sc D.nilf := (Eq.refl _).trans rfl
@[go_sem] theorem tt_30 : Tt 30 = Ty.st 2 [(0, 1, 3), (1, 1, 3)] [D.int IntKind.i64 0, D.int IntKind.i64 0] true := (Eq.refl _).trans rfl
@[go_sem] theorem tt_31 : Tt 31 = Ty.st 2 [(0, 1, 3), (1, 1, 3)] [D.int IntKind.i64 0, D.int IntKind.i64 0] true := (Eq.refl _).trans rfl
@[go_sem] theorem tt_32 : Tt 32 = Ty.sl 1 (D.int IntKind.i64 0) := (Eq.refl _).trans rfl
@[go_sem] theorem tt_34 : Tt 34 = Ty.sc D.nilf := (Eq.refl _).trans rfl
@[go_sem] theorem tt_35 : Tt 35 = Ty.sc D.nilf := (Eq.refl _).trans rfl
@[go_sem] theorem tt_36 : Tt 36 = Ty.sc D.nilf := (Eq.refl _).trans rfl
@[go_sem] theorem tt_37 : Tt 37 = Ty.sc D.nilf := (Eq.refl _).trans rfl
@[go_sem] theorem tt_38 : Tt 38 = Ty.sc D.nilf := (Eq.refl _).trans rfl
@[go_sem] theorem tt_40 : Tt 40 = Ty.sc D.nilf := (Eq.refl _).trans rfl
@[go_sem] theorem tt_41 : Tt 41 = Ty.sc D.nilf := (Eq.refl _).trans rfl
@[go_sem] theorem tt_42 : Tt 42 = Ty.sl 2 (D.agg [D.int IntKind.i64 0, D.sl []]) := (Eq.refl _).trans rfl
@[go_sem] theorem tt_43 : Tt 43 = Ty.st 2 [(0, 1, 3), (1, 1, 25)] [D.int IntKind.i64 0, D.sl []] false := (Eq.refl _).trans rfl
@[go_sem] theorem tt_44 : Tt 44 = Ty.st 2 [(0, 1, 3), (1, 1, 25)] [D.int IntKind.i64 0, D.sl []] false := (Eq.refl _).trans rfl
@[go_sem] theorem tt_45 : Tt 45 = Ty.sc D.nilf := (Eq.refl _).trans rfl
@[go_sem] theorem tt_46 : Tt 46 = Ty.sl 2 (D.agg [D.int IntKind.i64 0, D.int IntKind.i64 0]) := (Eq.refl _).trans rfl
@[go_sem] theorem tt_48 : Tt 48 = Ty.sc D.nilf := (Eq.refl _).trans rfl
@[go_sem] theorem tt_50 : Tt 50 = Ty.sc D.nilf := (Eq.refl _).trans rfl
@[go_sem] theorem tt_51 : Tt 51 = Ty.sc D.nilf := (Eq.refl _).trans rfl
@[go_sem] theorem tt_52 : Tt 52 = Ty.sc D.nilf := (Eq.refl _).trans rfl
@[go_sem] theorem tt_53 : Tt 53 = Ty.sc D.nilf := (Eq.refl _).trans rfl
@[go_sem] theorem tt_54 : Tt 54 = Ty.sc D.nilf := (Eq.refl _).trans rfl
@[go_sem] theorem tt_56 : Tt 56 = Ty.sc D.nilf := (Eq.refl _).trans rfl
@[go_sem] theorem tt_57 : Tt 57 = Ty.sc D.nilf := (Eq.refl _).trans rfl
@[go_sem] theorem tt_58 : Tt 58 = Ty.sl 3 (D.agg [D.int IntKind.i64 0, D.int IntKind.i64 0, D.int IntKind.i64 0]) := (Eq.refl _).trans rfl
@[go_sem] theorem tt_59 : Tt 59 = Ty.st 4 [(0, 1, 3), (1, 1, 3), (2, 2, 31)] [D.int IntKind.i64 0, D.int IntKind.i64 0, D.int IntKind.i64 0, D.int IntKind.i64 0] true := (Eq.refl _).trans rfl
@[go_sem] theorem tt_60 : Tt 60 = Ty.st 4 [(0, 1, 3), (1, 1, 3), (2, 2, 31)] [D.int IntKind.i64 0, D.int IntKind.i64 0, D.int IntKind.i64 0, D.int IntKind.i64 0] true := (Eq.refl _).trans rfl
@[go_sem] theorem tt_62 : Tt 62 = Ty.sc D.nilf := (Eq.refl _).trans rfl
@[go_sem] theorem tt_63 : Tt 63 = Ty.st 3 [(0, 1, 3), (1, 1, 3), (2, 1, 3)] [D.int IntKind.i64 0, D.int IntKind.i64 0, D.int IntKind.i64 0] true := (Eq.refl _).trans rfl
@[go_sem] theorem tt_64 : Tt 64 = Ty.st 3 [(0, 1, 3), (1, 1, 3), (2, 1, 3)] [D.int IntKind.i64 0, D.int IntKind.i64 0, D.int IntKind.i64 0] true := (Eq.refl _).trans rfl
@[go_sem] theorem tt_65 : Tt 65 = Ty.sc D.nilf := (Eq.refl _).trans rfl
@[go_sem] theorem tt_67 : Tt 67 = Ty.sc D.nilf := (Eq.refl _).trans rfl
@[go_sem] theorem tt_68 : Tt 68 = Ty.sc D.nilf := (Eq.refl _).trans rfl
@[go_sem] theorem tt_69 : Tt 69 = Ty.sl 4 (D.agg [D.int IntKind.i64 0, D.int IntKind.i64 0, D.int IntKind.i64 0, D.int IntKind.i64 0]) := (Eq.refl _).trans rfl
@[go_sem] theorem tt_70 : Tt 70 = Ty.sc D.nilf := (Eq.refl _).trans rfl
@[go_sem] theorem tt_72 : Tt 72 = Ty.sc D.nilf := (Eq.refl _).trans rfl
@[go_sem] theorem tt_73 : Tt 73 = Ty.st 4 [(0, 1, 3), (1, 1, 3), (2, 2, 31)] [D.int IntKind.i64 0, D.int IntKind.i64 0, D.int IntKind.i64 0, D.int IntKind.i64 0] true := (Eq.refl _).trans rfl
@[go_sem] theorem tt_74 : Tt 74 = Ty.st 4 [(0, 1, 3), (1, 1, 3), (2, 2, 31)] [D.int IntKind.i64 0, D.int IntKind.i64 0, D.int IntKind.i64 0, D.int IntKind.i64 0] true := (Eq.refl _).trans rfl
@[go_sem] theorem tt_75 : Tt 75 = Ty.sc D.nilf := (Eq.refl _).trans rfl
@[go_sem] theorem tt_77 : Tt 77 = Ty.sc D.nilf := (Eq.refl _).trans rfl
@[go_sem] theorem tt_78 : Tt 78 = Ty.sc D.nilf := (Eq.refl _).trans rfl
@[go_sem] theorem tt_79 : Tt 79 = Ty.sc D.nilf := (Eq.refl _).trans rfl
@[go_sem] theorem tt_80 : Tt 80 = Ty.sl 2 (D.agg [D.sl [], D.int IntKind.i64 0]) := (Eq.refl _).trans rfl
@[go_sem] theorem tt_81 : Tt 81 = Ty.sc (D.int IntKind.i64 0) := (Eq.refl _).trans rfl
@[go_sem] theorem tt_82 : Tt 82 = Ty.st 2 [(0, 1, 25), (1, 1, 81)] [D.sl [], D.int IntKind.i64 0] false := (Eq.refl _).trans rfl
@[go_sem] theorem tt_83 : Tt 83 = Ty.st 2 [(0, 1, 25), (1, 1, 81)] [D.sl [], D.int IntKind.i64 0] false := (Eq.refl _).trans rfl
@[go_sem] theorem tt_84 : Tt 84 = Ty.sc D.nilf := (Eq.refl _).trans rfl
@[go_sem] theorem tt_85 : Tt 85 = Ty.sc D.nilf := (Eq.refl _).trans rfl
@[go_sem] theorem tt_86 : Tt 86 = Ty.sc D.nilf := (Eq.refl _).trans rfl
@[go_sem] theorem tt_87 : Tt 87 = Ty.sc D.nilf := (Eq.refl _).trans rfl
@[go_sem] theorem tt_88 : Tt 88 = Ty.sc D.nilf := (Eq.refl _).trans rfl
@[go_sem] theorem tt_89 : Tt 89 = Ty.sc D.nilf := (Eq.refl _).trans rfl
@[go_sem] theorem tt_90 : Tt 90 = Ty.sl 5 (D.agg [D.int IntKind.u8 0, D.int IntKind.u8 0, D.int IntKind.u8 0, D.int IntKind.u8 0, D.int IntKind.u8 0]) := (Eq.refl _).trans rfl
@[go_sem] theorem tt_91 : Tt 91 = Ty.ar 2 1 5 [D.int IntKind.u8 0, D.int IntKind.u8 0] false := (Eq.refl _).trans rfl
@[go_sem] theorem tt_92 : Tt 92 = Ty.st 3 [(0, 1, 90), (1, 2, 91)] [D.sl [], D.int IntKind.u8 0, D.int IntKind.u8 0] false := (Eq.refl _).trans rfl
@[go_sem] theorem tt_93 : Tt 93 = Ty.st 3 [(0, 1, 90), (1, 2, 91)] [D.sl [], D.int IntKind.u8 0, D.int IntKind.u8 0] false := (Eq.refl _).trans rfl
@[go_sem] theorem tt_94 : Tt 94 = Ty.sl 1 (D.int IntKind.u8 0) := (Eq.refl _).trans rfl
@[go_sem] theorem tt_96 : Tt 96 = Ty.sc D.nilf := (Eq.refl _).trans rfl
@[go_sem] theorem tt_97 : Tt 97 = Ty.sc D.nilf := (Eq.refl _).trans rfl
@[go_sem] theorem tt_98 : Tt 98 = Ty.sc D.nilf := (Eq.refl _).trans rfl
@[go_sem] theorem tt_100 : Tt 100 = Ty.sc D.nilf := (Eq.refl _).trans rfl
@[go_sem] theorem tt_101 : Tt 101 = Ty.sc D.nilf := (Eq.refl _).trans rfl
@[go_sem] theorem tt_102 : Tt 102 = Ty.sc D.nilf := (Eq.refl _).trans rfl
@[go_sem] theorem tt_103 : Tt 103 = Ty.sc D.nilf := (Eq.refl _).trans rfl
@[go_sem] theorem tt_104 : Tt 104 = Ty.sc D.nilf := (Eq.refl _).trans rfl
@[go_sem] theorem tt_105 : Tt 105 = Ty.ar 2 1 94 [D.sl [], D.sl []] false := (Eq.refl _).trans rfl
@[go_sem] theorem tt_106 : Tt 106 = Ty.sc D.nilf := (Eq.refl _).trans rfl
@[go_sem] theorem tt_107 : Tt 107 = Ty.st 5 [(0, 2, 31), (2, 2, 31), (4, 1, 3)] [D.int IntKind.i64 0, D.int IntKind.i64 0, D.int IntKind.i64 0, D.int IntKind.i64 0, D.int IntKind.i64 0] true := (Eq.refl _).trans rfl
@[go_sem] theorem tt_108 : Tt 108 = Ty.st 5 [(0, 2, 31), (2, 2, 31), (4, 1, 3)] [D.int IntKind.i64 0, D.int IntKind.i64 0, D.int IntKind.i64 0, D.int IntKind.i64 0, D.int IntKind.i64 0] true := (Eq.refl _).trans rfl
@[go_sem] theorem tt_110 : Tt 110 = Ty.sc D.nilf := (Eq.refl _).trans rfl
@[go_sem] theorem tt_111 : Tt 111 = Ty.sc D.nilf := (Eq.refl _).trans rfl
@[go_sem] theorem tt_112 : Tt 112 = Ty.sl 4 (D.agg [D.int IntKind.u8 0, D.int IntKind.u8 0, D.int IntKind.u8 0, D.int IntKind.u8 0]) := (Eq.refl _).trans rfl
@[go_sem] theorem tt_113 : Tt 113 = Ty.sc (D.int IntKind.u16 0) := (Eq.refl _).trans rfl
@[go_sem] theorem tt_114 : Tt 114 = Ty.ar 4 1 113 [D.int IntKind.u16 0, D.int IntKind.u16 0, D.int IntKind.u16 0, D.int IntKind.u16 0] false := (Eq.refl _).trans rfl
@[go_sem] theorem tt_115 : Tt 115 = Ty.ar 4 1 5 [D.int IntKind.u8 0, D.int IntKind.u8 0, D.int IntKind.u8 0, D.int IntKind.u8 0] false := (Eq.refl _).trans rfl
@[go_sem] theorem tt_116 : Tt 116 = Ty.sc D.nilf := (Eq.refl _).trans rfl
@[go_sem] theorem tt_117 : Tt 117 = Ty.sl 3 (D.agg [D.int IntKind.u8 0, D.int IntKind.u8 0, D.int IntKind.u8 0]) := (Eq.refl _).trans rfl
@[go_sem] theorem tt_118 : Tt 118 = Ty.ar 3 1 5 [D.int IntKind.u8 0, D.int IntKind.u8 0, D.int IntKind.u8 0] false := (Eq.refl _).trans rfl
@[go_sem] theorem tt_120 : Tt 120 = Ty.sc D.nilf := (Eq.refl _).trans rfl
@[go_sem] theorem tt_121 : Tt 121 = Ty.sc D.nilf := (Eq.refl _).trans rfl
@[go_sem] theorem tt_122 : Tt 122 = Ty.sc D.nilf := (Eq.refl _).trans rfl
@[go_sem] theorem tt_123 : Tt 123 = Ty.sc D.nilf := (Eq.refl _).trans rfl
@[go_sem] theorem tt_124 : Tt 124 = Ty.sl 1 (D.sl []) := (Eq.refl _).trans rfl
@[go_sem] theorem tt_125 : Tt 125 = Ty.sc D.nilf := (Eq.refl _).trans rfl
@[go_sem] theorem tt_126 : Tt 126 = Ty.sc D.nilf := (Eq.refl _).trans rfl
@[go_sem] theorem tt_127 : Tt 127 = Ty.sc D.nilf := (Eq.refl _).trans rfl
@[go_sem] theorem tt_128 : Tt 128 = Ty.sc D.nilf := (Eq.refl _).trans rfl
@[go_sem] theorem tt_129 : Tt 129 = Ty.sc D.nilf := (Eq.refl _).trans rfl
@[go_sem] theorem tt_130 : Tt 130 = Ty.sc D.nilf := (Eq.refl _).trans rfl
@[go_sem] theorem tt_131 : Tt 131 = Ty.sc D.nilf := (Eq.refl _).trans rfl
@[go_sem] theorem tt_132 : Tt 132 = Ty.st 3 [(0, 3, 24)] [D.sl [], D.int IntKind.i64 0, D.int IntKind.i64 0] false := (Eq.refl _).trans rfl
@[go_sem] theorem tt_133 : Tt 133 = Ty.st 3 [(0, 3, 24)] [D.sl [], D.int IntKind.i64 0, D.int IntKind.i64 0] false := (Eq.refl _).trans rfl
@[go_sem] theorem tt_135 : Tt 135 = Ty.sc D.nilf := (Eq.refl _).trans rfl
@[go_sem] theorem tt_136 : Tt 136 = Ty.sc D.nilf := (Eq.refl _).trans rfl
@[go_sem] theorem tt_137 : Tt 137 = Ty.ar 4 1 3 [D.int IntKind.i64 0, D.int IntKind.i64 0, D.int IntKind.i64 0, D.int IntKind.i64 0] false := (Eq.refl _).trans rfl
@[go_sem] theorem tt_138 : Tt 138 = Ty.ar 4 1 3 [D.int IntKind.i64 0, D.int IntKind.i64 0, D.int IntKind.i64 0, D.int IntKind.i64 0] false := (Eq.refl _).trans rfl
@[go_sem] theorem tt_139 : Tt 139 = Ty.sc D.nilf := (Eq.refl _).trans rfl
@[go_sem] theorem tt_140 : Tt 140 = Ty.mp (D.int IntKind.i64 0) (D.bool false) := (Eq.refl _).trans rfl
@[go_sem] theorem tt_141 : Tt 141 = Ty.sc D.nilf := (Eq.refl _).trans rfl
@[go_sem] theorem tt_142 : Tt 142 = Ty.sc D.nilf := (Eq.refl _).trans rfl
@[go_sem] theorem tt_143 : Tt 143 = Ty.sc D.nilf := (Eq.refl _).trans rfl
@[go_sem] theorem tt_144 : Tt 144 = Ty.sc D.nilf := (Eq.refl _).trans rfl
@[go_sem] theorem tt_145 : Tt 145 = Ty.sc D.nilf := (Eq.refl _).trans rfl
@[go_sem] theorem tt_146 : Tt 146 = Ty.sc D.nilf := (Eq.refl _).trans rfl
@[go_sem] theorem tt_147 : Tt 147 = Ty.sl 1 (D.sl []) := (Eq.refl _).trans rfl
@[go_sem] theorem tt_148 : Tt 148 = Ty.sc D.nilf := (Eq.refl _).trans rfl
@[go_sem] theorem tt_149 : Tt 149 = Ty.ar 4 1 4 [D.bool false, D.bool false, D.bool false, D.bool false] false := (Eq.refl _).trans rfl
@[go_sem] theorem tt_150 : Tt 150 = Ty.sc D.nilf := (Eq.refl _).trans rfl
@[go_sem] theorem tt_151 : Tt 151 = Ty.sc D.nilf := (Eq.refl _).trans rfl
@[go_sem] theorem tt_152 : Tt 152 = Ty.sl 1 (D.sl []) := (Eq.refl _).trans rfl
@[go_sem] theorem tt_154 : Tt 154 = Ty.sc D.nilf := (Eq.refl _).trans rfl
@[go_sem] theorem tt_155 : Tt 155 = Ty.sc D.nilf := (Eq.refl _).trans rfl
@[go_sem] theorem tt_156 : Tt 156 = Ty.sc D.nilf := (Eq.refl _).trans rfl
@[go_sem] theorem tt_157 : Tt 157 = Ty.sc D.nilf := (Eq.refl _).trans rfl
@[go_sem] theorem tt_158 : Tt 158 = Ty.sc D.nilf := (Eq.refl _).trans rfl
@[go_sem] theorem tt_159 : Tt 159 = Ty.sc D.nilf := (Eq.refl _).trans rfl
@[go_sem] theorem tt_160 : Tt 160 = Ty.sc D.nilp := (Eq.refl _).trans rfl
@[go_sem] theorem tt_161 : Tt 161 = Ty.st 8 [(0, 1, 58), (1, 4, 60), (5, 1, 25), (6, 1, 3), (7, 1, 4)] [D.sl [], D.int IntKind.i64 0, D.int IntKind.i64 0, D.int IntKind.i64 0, D.int IntKind.i64 0, D.sl [], D.int IntKind.i64 0, D.bool false] false := (Eq.refl _).trans rfl
@[go_sem] theorem tt_162 : Tt 162 = Ty.st 8 [(0, 1, 58), (1, 4, 60), (5, 1, 25), (6, 1, 3), (7, 1, 4)] [D.sl [], D.int IntKind.i64 0, D.int IntKind.i64 0, D.int IntKind.i64 0, D.int IntKind.i64 0, D.sl [], D.int IntKind.i64 0, D.bool false] false := (Eq.refl _).trans rfl
@[go_sem] theorem tt_163 : Tt 163 = Ty.sc D.nilf := (Eq.refl _).trans rfl
@[go_sem] theorem tt_164 : Tt 164 = Ty.st 3 [(0, 1, 3), (1, 1, 3), (2, 1, 3)] [D.int IntKind.i64 0, D.int IntKind.i64 0, D.int IntKind.i64 0] true := (Eq.refl _).trans rfl
@[go_sem] theorem tt_165 : Tt 165 = Ty.st 3 [(0, 1, 3), (1, 1, 3), (2, 1, 3)] [D.int IntKind.i64 0, D.int IntKind.i64 0, D.int IntKind.i64 0] true := (Eq.refl _).trans rfl
@[go_sem] theorem tt_166 : Tt 166 = Ty.sc D.nilf := (Eq.refl _).trans rfl
@[go_sem] theorem tt_168 : Tt 168 = Ty.sc D.nilf := (Eq.refl _).trans rfl
@[go_sem] theorem tt_169 : Tt 169 = Ty.st 5 [(0, 3, 133), (3, 1, 69), (4, 1, 3)] [D.sl [], D.int IntKind.i64 0, D.int IntKind.i64 0, D.sl [], D.int IntKind.i64 0] false := (Eq.refl _).trans rfl
@[go_sem] theorem tt_170 : Tt 170 = Ty.st 5 [(0, 3, 133), (3, 1, 69), (4, 1, 3)] [D.sl [], D.int IntKind.i64 0, D.int IntKind.i64 0, D.sl [], D.int IntKind.i64 0] false := (Eq.refl _).trans rfl
@[go_sem] theorem tt_172 : Tt 172 = Ty.sc D.nilf := (Eq.refl _).trans rfl
@[go_sem] theorem tt_173 : Tt 173 = Ty.sc D.nilf := (Eq.refl _).trans rfl
@[go_sem] theorem tt_174 : Tt 174 = Ty.sc D.nilf := (Eq.refl _).trans rfl
@[go_sem] theorem tt_175 : Tt 175 = Ty.sc D.nilf := (Eq.refl _).trans rfl
@[go_sem] theorem tt_176 : Tt 176 = Ty.sc D.nilf := (Eq.refl _).trans rfl
@[go_sem] theorem tt_177 : Tt 177 = Ty.sc (D.int IntKind.u64 0) := (Eq.refl _).trans rfl
@[go_sem] theorem tt_178 : Tt 178 = Ty.sc D.nilf := (Eq.refl _).trans rfl
@[go_sem] theorem tt_179 : Tt 179 = Ty.sc D.nilf := (Eq.refl _).trans rfl
@[go_sem] theorem tt_180 : Tt 180 = Ty.sc D.nilf := (Eq.refl _).trans rfl
@[go_sem] theorem tt_181 : Tt 181 = Ty.sl 4 (D.agg [D.int IntKind.i64 0, D.int IntKind.i64 0, D.int IntKind.i64 0, D.int IntKind.i64 0]) := (Eq.refl _).trans rfl
@[go_sem] theorem tt_182 : Tt 182 = Ty.sc D.nilf := (Eq.refl _).trans rfl
@[go_sem] theorem tt_183 : Tt 183 = Ty.ar 5 1 5 [D.int IntKind.u8 0, D.int IntKind.u8 0, D.int IntKind.u8 0, D.int IntKind.u8 0, D.int IntKind.u8 0] false := (Eq.refl _).trans rfl
@[go_sem] theorem tt_184 : Tt 184 = Ty.sc D.nilp := (Eq.refl _).trans rfl
@[go_sem] theorem tt_185 : Tt 185 = Ty.st 11 [(0, 3, 133), (3, 4, 138), (7, 1, 3), (8, 1, 25), (9, 1, 3), (10, 1, 4)] [D.sl [], D.int IntKind.i64 0, D.int IntKind.i64 0, D.int IntKind.i64 0, D.int IntKind.i64 0, D.int IntKind.i64 0, D.int IntKind.i64 0, D.int IntKind.i64 0, D.sl [], D.int IntKind.i64 0, D.bool false] false := (Eq.refl _).trans rfl
@[go_sem] theorem tt_186 : Tt 186 = Ty.st 11 [(0, 3, 133), (3, 4, 138), (7, 1, 3), (8, 1, 25), (9, 1, 3), (10, 1, 4)] [D.sl [], D.int IntKind.i64 0, D.int IntKind.i64 0, D.int IntKind.i64 0, D.int IntKind.i64 0, D.int IntKind.i64 0, D.int IntKind.i64 0, D.int IntKind.i64 0, D.sl [], D.int IntKind.i64 0, D.bool false] false := (Eq.refl _).trans rfl
@[go_sem] theorem tt_187 : Tt 187 = Ty.sc D.nilf := (Eq.refl _).trans rfl
@[go_sem] theorem tt_188 : Tt 188 = Ty.sc D.nilf := (Eq.refl _).trans rfl
@[go_sem] theorem tt_189 : Tt 189 = Ty.sc D.nilf := (Eq.refl _).trans rfl
@[go_sem] theorem tt_190 : Tt 190 = Ty.sc D.nilf := (Eq.refl _).trans rfl
@[go_sem] theorem tt_191 : Tt 191 = Ty.sc D.nilf := (Eq.refl _).trans rfl
@[go_sem] theorem tt_192 : Tt 192 = Ty.sc D.nilf := (Eq.refl _).trans rfl
@[go_sem] theorem tt_193 : Tt 193 = Ty.sc D.nilf := (Eq.refl _).trans rfl
@[go_sem] theorem tt_194 : Tt 194 = Ty.sc D.nilf := (Eq.refl _).trans rfl
@[go_sem] theorem tt_195 : Tt 195 = Ty.sc D.nilf := (Eq.refl _).trans rfl
@[go_sem] theorem tt_196 : Tt 196 = Ty.sc D.nilf := (Eq.refl _).trans rfl
@[go_sem] theorem tt_197 : Tt 197 = Ty.sc D.nilf := (Eq.refl _).trans rfl
@[go_sem] theorem tt_198 : Tt 198 = Ty.sc D.nilf := (Eq.refl _).trans rfl
@[go_sem] theorem tt_199 : Tt 199 = Ty.sc D.nilf := (Eq.refl _).trans rfl
@[go_sem] theorem tt_200 : Tt 200 = Ty.sc D.nilf := (Eq.refl _).trans rfl
@[go_sem] theorem tt_201 : Tt 201 = Ty.sc D.nilf := (Eq.refl _).trans rfl
@[go_sem] theorem tt_202 : Tt 202 = Ty.sc D.nilp := (Eq.refl _).trans rfl
@[go_sem] theorem tt_203 : Tt 203 = Ty.sc D.nilf := (Eq.refl _).trans rfl
@[go_sem] theorem tt_204 : Tt 204 = Ty.sc D.nilf := (Eq.refl _).trans rfl
@[go_sem] theorem tt_205 : Tt 205 = Ty.sc D.nilf := (Eq.refl _).trans rfl
@[go_sem] theorem tt_206 : Tt 206 = Ty.sc D.nilf := (Eq.refl _).trans rfl
@[go_sem] theorem tt_207 : Tt 207 = Ty.sc D.nilf := (Eq.refl _).trans rfl
@[go_sem] theorem tt_208 : Tt 208 = Ty.sc (D.int IntKind.i64 0) := (Eq.refl _).trans rfl
@[go_sem] theorem tt_210 : Tt 210 = Ty.sc D.nilf := (Eq.refl _).trans rfl
@[go_sem] theorem tt_211 : Tt 211 = Ty.sc D.nilf := (Eq.refl _).trans rfl
@[go_sem] theorem tt_212 : Tt 212 = Ty.sc D.nilf := (Eq.refl _).trans rfl
@[go_sem] theorem tt_213 : Tt 213 = Ty.sc D.nilf := (Eq.refl _).trans rfl
@[go_sem] theorem tt_215 : Tt 215 = Ty.sc D.nilf := (Eq.refl _).trans rfl
@[go_sem] theorem tt_216 : Tt 216 = Ty.sc D.nilf := (Eq.refl _).trans rfl
@[go_sem] theorem tt_217 : Tt 217 = Ty.sc (D.int IntKind.u32 0) := (Eq.refl _).trans rfl
@[go_sem] theorem tt_218 : Tt 218 = Ty.sc D.nilf := (Eq.refl _).trans rfl
@[go_sem] theorem tt_219 : Tt 219 = Ty.sc (D.int IntKind.u64 0) := (Eq.refl _).trans rfl
@[go_sem] theorem tt_220 : Tt 220 = Ty.sc D.nilf := (Eq.refl _).trans rfl
@[go_sem] theorem tt_221 : Tt 221 = Ty.sc D.nilf := (Eq.refl _).trans rfl
@[go_sem] theorem tt_222 : Tt 222 = Ty.sc D.nilf := (Eq.refl _).trans rfl
@[go_sem] theorem tt_223 : Tt 223 = Ty.sc D.nilf := (Eq.refl _).trans rfl
@[go_sem] theorem tt_224 : Tt 224 = Ty.sc (D.int IntKind.u64 0) := (Eq.refl _).trans rfl
@[go_sem] theorem tt_225 : Tt 225 = Ty.sc D.nilf := (Eq.refl _).trans rfl
@[go_sem] theorem tt_226 : Tt 226 = Ty.sc D.nilf := (Eq.refl _).trans rfl
@[go_sem] theorem tt_227 : Tt 227 = Ty.sc D.nilf := (Eq.refl _).trans rfl
@[go_sem] theorem tt_228 : Tt 228 = Ty.sc D.nilp := (Eq.refl _).trans rfl
@[go_sem] theorem tt_229 : Tt 229 = Ty.sc D.nilf := (Eq.refl _).trans rfl
@[go_sem] theorem tt_230 : Tt 230 = Ty.sc D.nilf := (Eq.refl _).trans rfl
@[go_sem] theorem tt_231 : Tt 231 = Ty.sc D.nilp := (Eq.refl _).trans rfl
@[go_sem] theorem tt_232 : Tt 232 = Ty.sc D.nilf := (Eq.refl _).trans rfl
@[go_sem] theorem tt_233 : Tt 233 = Ty.sc D.nilf := (Eq.refl _).trans rfl
@[go_sem] theorem tt_234 : Tt 234 = Ty.st 4 [(0, 1, 17), (1, 1, 17), (2, 1, 17), (3, 1, 9)] [D.nilp, D.nilp, D.nilp, D.str ⟨#[]⟩] false := (Eq.refl _).trans rfl
@[go_sem] theorem tt_235 : Tt 235 = Ty.st 4 [(0, 1, 17), (1, 1, 17), (2, 1, 17), (3, 1, 9)] [D.nilp, D.nilp, D.nilp, D.str ⟨#[]⟩] false := (Eq.refl _).trans rfl
@[go_sem] theorem tt_236 : Tt 236 = Ty.ar 0 1 16 [] false := (Eq.refl _).trans rfl
@[go_sem] theorem tt_239 : Tt 239 = Ty.sc D.nilf := (Eq.refl _).trans rfl
@[go_sem] theorem tt_240 : Tt 240 = Ty.sc (D.int IntKind.u8 0) := (Eq.refl _).trans rfl
@[go_sem] theorem tt_241 : Tt 241 = Ty.sc (D.int IntKind.u8 0) := (Eq.refl _).trans rfl
@[go_sem] theorem tt_242 : Tt 242 = Ty.sc D.nilf := (Eq.refl _).trans rfl
@[go_sem] theorem tt_243 : Tt 243 = Ty.sc D.nilp := (Eq.refl _).trans rfl
@[go_sem] theorem tt_244 : Tt 244 = Ty.sc (D.int IntKind.i32 0) := (Eq.refl _).trans rfl
@[go_sem] theorem tt_245 : Tt 245 = Ty.sc (D.int IntKind.i32 0) := (Eq.refl _).trans rfl
@[go_sem] theorem tt_246 : Tt 246 = Ty.st 11 [(0, 1, 12), (1, 1, 12), (2, 1, 217), (3, 1, 240), (4, 1, 5), (5, 1, 5), (6, 1, 241), (7, 1, 242), (8, 1, 243), (9, 1, 244), (10, 1, 245)] [D.int IntKind.u64 0, D.int IntKind.u64 0, D.int IntKind.u32 0, D.int IntKind.u8 0, D.int IntKind.u8 0, D.int IntKind.u8 0, D.int IntKind.u8 0, D.nilf, D.nilp, D.int IntKind.i32 0, D.int IntKind.i32 0] false := (Eq.refl _).trans rfl
@[go_sem] theorem tt_247 : Tt 247 = Ty.st 11 [(0, 1, 12), (1, 1, 12), (2, 1, 217), (3, 1, 240), (4, 1, 5), (5, 1, 5), (6, 1, 241), (7, 1, 242), (8, 1, 243), (9, 1, 244), (10, 1, 245)] [D.int IntKind.u64 0, D.int IntKind.u64 0, D.int IntKind.u32 0, D.int IntKind.u8 0, D.int IntKind.u8 0, D.int IntKind.u8 0, D.int IntKind.u8 0, D.nilf, D.nilp, D.int IntKind.i32 0, D.int IntKind.i32 0] false := (Eq.refl _).trans rfl

end Go.Aw
end

section
set_option maxRecDepth 100000
namespace Go.Aw
open Go Go.Proofs.Try

theorem c123 {α : Type} {enc : α → D} (he : Enc 1 (Tt 3) enc) {H : Heap} {Q : V → Heap → Prop} (l : List α) (hl : l.length ≤ 4294967296) (k : Nat) (fx fy : List V) (p : α → Bool) (hf : ∀ x ∈ l, ∀ Q, Q (.d (.bool (p x))) H → ACallV prog (.fn (.func k) fx fy) [.d (enc x)] H Q) (h : Q (.d (.int .i64 (idx p l 0))) H) :
    ACalls prog 123 [.d (.sl (l.map enc)), .fn (.func k) fx fy] H Q := by
  refine ACalls.run (fun _ => false) tt_ok (fn := f123) (rs := [.tmp 4]) rfl rfl rfl rfl rfl rfl rfl ?_
  simp only [go_sem]
  refine ALoop.by (S := Nat) (fun i => [(8, .d (.int .i64 i)), (7, .d (.int .i64 l.length)), (0, .d (.sl (l.map enc))), (1, .fn (.func k) fx fy)]) (fun _ => H) (fun i => l.length - i) (fun i => i ≤ l.length ∧ idx p (l.drop i) i = idx p l 0) 0 (Nat.le_refl _) (fun _ h => nomatch h) ⟨Nat.zero_le _, rfl⟩ ?_ ?_
  · simp [ForgetTo, EW, VW, BBq, Env.look, pubV]
  · rintro i ⟨hi, hx⟩ hn
    refine AWP.run (fun _ => false) tt_ok (fun _ h => nomatch h) hn rfl ?_
    simp only [go_sem]
    refine Br_split (fun h => ?_) (fun h => ?_) <;> simp only [go_sem, h]
    · have hlt : i < l.length := by simpa using h
      rw [idx_drop p hlt] at hx
      have he1 := (he l[i]).1
      have he2 := (he l[i]).2
      simp only [go_sem, he1] at he2
      rw [idx_nat, List.getElem?_map, List.getElem?_eq_getElem hlt]
      simp only [go_sem, he1, he2]
      refine hf _ (List.getElem_mem hlt) _ ?_
      simp only [go_sem]
      refine Br_split (fun h => ?_) (fun h => ?_) <;> simp only [go_sem, h]
      · rw [h] at hx
        simp only [if_true] at hx
        rw [hx]; assumption
      · rw [h] at hx
        simp only [Bool.false_eq_true, if_false] at hx
        exact ⟨i + 1, ⟨hlt, hx⟩, by omega, by simp [ForgetTo, EW, VW, BBq, Env.look, pubV, w64 (n := (i : Int) + 1) (by omega) (by omega)]⟩
    · have hlt : ¬ i < l.length := by simpa using h
      have : l.drop i = [] := List.drop_eq_nil_of_le (by omega)
      rw [this] at hx
      simp only [idx] at hx
      rw [hx]; assumption

theorem c104 {α : Type} {enc : α → D} (he : Enc 1 (Tt 3) enc) {H : Heap} {Q : V → Heap → Prop} (l : List α) (hl : l.length ≤ 4294967296) (k : Nat) (fx fy : List V) (p : α → Bool) (hf : ∀ x ∈ l, ∀ Q, Q (.d (.bool (p x))) H → ACallV prog (.fn (.func k) fx fy) [.d (enc x)] H Q) (h : Q (.d (.bool (l.any p))) H) :
    ACalls prog 104 [.d (.sl (l.map enc)), .fn (.func k) fx fy] H Q := by
  refine ACalls.run (fun _ => false) tt_ok (fn := f104) (rs := [.tmp 4]) rfl rfl rfl rfl rfl rfl rfl ?_
  simp only [go_sem]
  refine c123 he l hl k fx fy p hf ?_
  simp only [go_sem]
  rw [idx_ge p l 0 (by omega)]
  exact h

theorem c106 {α : Type} {enc : α → D} (he : Enc 5 (Tt 108) enc) {H : Heap} {Q : V → Heap → Prop} (l : List α) (hl : l.length ≤ 4294967296) (k : Nat) (fx fy : List V) (p : α → Bool) (hf : ∀ x ∈ l, ∀ Q, Q (.d (.bool (p x))) H → ACallV prog (.fn (.func k) fx fy) [.d (enc x)] H Q) (h : Q (.d (.int .i64 (idx p l 0))) H) :
    ACalls prog 106 [.d (.sl (l.map enc)), .fn (.func k) fx fy] H Q := by
  refine ACalls.run (fun _ => false) tt_ok (fn := f106) (rs := [.tmp 4]) rfl rfl rfl rfl rfl rfl rfl ?_
  simp only [go_sem]
  refine ALoop.by (S := Nat) (fun i => [(8, .d (.int .i64 i)), (7, .d (.int .i64 l.length)), (0, .d (.sl (l.map enc))), (1, .fn (.func k) fx fy)]) (fun _ => H) (fun i => l.length - i) (fun i => i ≤ l.length ∧ idx p (l.drop i) i = idx p l 0) 0 (Nat.le_refl _) (fun _ h => nomatch h) ⟨Nat.zero_le _, rfl⟩ ?_ ?_
  · simp [ForgetTo, EW, VW, BBq, Env.look, pubV]
  · rintro i ⟨hi, hx⟩ hn
    refine AWP.run (fun _ => false) tt_ok (fun _ h => nomatch h) hn rfl ?_
    simp only [go_sem]
    refine Br_split (fun h => ?_) (fun h => ?_) <;> simp only [go_sem, h]
    · have hlt : i < l.length := by simpa using h
      rw [idx_drop p hlt] at hx
      have he1 := (he l[i]).1
      have he2 := (he l[i]).2
      simp only [go_sem, he1] at he2
      rw [idx_nat, List.getElem?_map, List.getElem?_eq_getElem hlt]
      simp only [go_sem, he1, he2]
      refine hf _ (List.getElem_mem hlt) _ ?_
      simp only [go_sem]
      refine Br_split (fun h => ?_) (fun h => ?_) <;> simp only [go_sem, h]
      · rw [h] at hx
        simp only [if_true] at hx
        rw [hx]; assumption
      · rw [h] at hx
        simp only [Bool.false_eq_true, if_false] at hx
        exact ⟨i + 1, ⟨hlt, hx⟩, by omega, by simp [ForgetTo, EW, VW, BBq, Env.look, pubV, w64 (n := (i : Int) + 1) (by omega) (by omega)]⟩
    · have hlt : ¬ i < l.length := by simpa using h
      have : l.drop i = [] := List.drop_eq_nil_of_le (by omega)
      rw [this] at hx
      simp only [idx] at hx
      rw [hx]; assumption

theorem c69 {α : Type} {enc : α → D} (he : Enc 5 (Tt 108) enc) {H : Heap} {Q : V → Heap → Prop} (l : List α) (hl : l.length ≤ 4294967296) (k : Nat) (fx fy : List V) (p : α → Bool) (hf : ∀ x ∈ l, ∀ Q, Q (.d (.bool (p x))) H → ACallV prog (.fn (.func k) fx fy) [.d (enc x)] H Q) (h : Q (.d (.bool (l.any p))) H) :
    ACalls prog 69 [.d (.sl (l.map enc)), .fn (.func k) fx fy] H Q := by
  refine ACalls.run (fun _ => false) tt_ok (fn := f69) (rs := [.tmp 4]) rfl rfl rfl rfl rfl rfl rfl ?_
  simp only [go_sem]
  refine c106 he l hl k fx fy p hf ?_
  simp only [go_sem]
  rw [idx_ge p l 0 (by omega)]
  exact h

theorem c135 {α : Type} {enc : α → D} (he : Enc 2 (Tt 44) enc) {H : Heap} {Q : V → Heap → Prop} (l : List α) (hl : l.length ≤ 4294967296) (k : Nat) (fx fy : List V) (p : α → Bool) (hf : ∀ x ∈ l, ∀ Q, Q (.d (.bool (p x))) H → ACallV prog (.fn (.func k) fx fy) [.d (enc x)] H Q) (h : Q (.d (.int .i64 (idx p l 0))) H) :
    ACalls prog 135 [.d (.sl (l.map enc)), .fn (.func k) fx fy] H Q := by
  refine ACalls.run (fun _ => false) tt_ok (fn := f135) (rs := [.tmp 4]) rfl rfl rfl rfl rfl rfl rfl ?_
  simp only [go_sem]
  refine ALoop.by (S := Nat) (fun i => [(8, .d (.int .i64 i)), (7, .d (.int .i64 l.length)), (0, .d (.sl (l.map enc))), (1, .fn (.func k) fx fy)]) (fun _ => H) (fun i => l.length - i) (fun i => i ≤ l.length ∧ idx p (l.drop i) i = idx p l 0) 0 (Nat.le_refl _) (fun _ h => nomatch h) ⟨Nat.zero_le _, rfl⟩ ?_ ?_
  · simp [ForgetTo, EW, VW, BBq, Env.look, pubV]
  · rintro i ⟨hi, hx⟩ hn
    refine AWP.run (fun _ => false) tt_ok (fun _ h => nomatch h) hn rfl ?_
    simp only [go_sem]
    refine Br_split (fun h => ?_) (fun h => ?_) <;> simp only [go_sem, h]
    · have hlt : i < l.length := by simpa using h
      rw [idx_drop p hlt] at hx
      have he1 := (he l[i]).1
      have he2 := (he l[i]).2
      simp only [go_sem, he1] at he2
      rw [idx_nat, List.getElem?_map, List.getElem?_eq_getElem hlt]
      simp only [go_sem, he1, he2]
      refine hf _ (List.getElem_mem hlt) _ ?_
      simp only [go_sem]
      refine Br_split (fun h => ?_) (fun h => ?_) <;> simp only [go_sem, h]
      · rw [h] at hx
        simp only [if_true] at hx
        rw [hx]; assumption
      · rw [h] at hx
        simp only [Bool.false_eq_true, if_false] at hx
        exact ⟨i + 1, ⟨hlt, hx⟩, by omega, by simp [ForgetTo, EW, VW, BBq, Env.look, pubV, w64 (n := (i : Int) + 1) (by omega) (by omega)]⟩
    · have hlt : ¬ i < l.length := by simpa using h
      have : l.drop i = [] := List.drop_eq_nil_of_le (by omega)
      rw [this] at hx
      simp only [idx] at hx
      rw [hx]; assumption

theorem c111 {α : Type} {enc : α → D} (he : Enc 2 (Tt 44) enc) {H : Heap} {Q : V → Heap → Prop} (l : List α) (hl : l.length ≤ 4294967296) (k : Nat) (fx fy : List V) (p : α → Bool) (hf : ∀ x ∈ l, ∀ Q, Q (.d (.bool (p x))) H → ACallV prog (.fn (.func k) fx fy) [.d (enc x)] H Q) (h : Q (.d (.bool (l.any p))) H) :
    ACalls prog 111 [.d (.sl (l.map enc)), .fn (.func k) fx fy] H Q := by
  refine ACalls.run (fun _ => false) tt_ok (fn := f111) (rs := [.tmp 4]) rfl rfl rfl rfl rfl rfl rfl ?_
  simp only [go_sem]
  refine c135 he l hl k fx fy p hf ?_
  simp only [go_sem]
  rw [idx_ge p l 0 (by omega)]
  exact h

theorem c112 {α : Type} {enc : α → D} (he : Enc 3 (Tt 64) enc) {H : Heap} {Q : V → Heap → Prop} (l : List α) (hl : l.length ≤ 4294967296) (k : Nat) (fx fy : List V) (p : α → Bool) (hf : ∀ x ∈ l, ∀ Q, Q (.d (.bool (p x))) H → ACallV prog (.fn (.func k) fx fy) [.d (enc x)] H Q) (h : Q (.d (.int .i64 (idx p l 0))) H) :
    ACalls prog 112 [.d (.sl (l.map enc)), .fn (.func k) fx fy] H Q := by
  refine ACalls.run (fun _ => false) tt_ok (fn := f112) (rs := [.tmp 4]) rfl rfl rfl rfl rfl rfl rfl ?_
  simp only [go_sem]
  refine ALoop.by (S := Nat) (fun i => [(8, .d (.int .i64 i)), (7, .d (.int .i64 l.length)), (0, .d (.sl (l.map enc))), (1, .fn (.func k) fx fy)]) (fun _ => H) (fun i => l.length - i) (fun i => i ≤ l.length ∧ idx p (l.drop i) i = idx p l 0) 0 (Nat.le_refl _) (fun _ h => nomatch h) ⟨Nat.zero_le _, rfl⟩ ?_ ?_
  · simp [ForgetTo, EW, VW, BBq, Env.look, pubV]
  · rintro i ⟨hi, hx⟩ hn
    refine AWP.run (fun _ => false) tt_ok (fun _ h => nomatch h) hn rfl ?_
    simp only [go_sem]
    refine Br_split (fun h => ?_) (fun h => ?_) <;> simp only [go_sem, h]
    · have hlt : i < l.length := by simpa using h
      rw [idx_drop p hlt] at hx
      have he1 := (he l[i]).1
      have he2 := (he l[i]).2
      simp only [go_sem, he1] at he2
      rw [idx_nat, List.getElem?_map, List.getElem?_eq_getElem hlt]
      simp only [go_sem, he1, he2]
      refine hf _ (List.getElem_mem hlt) _ ?_
      simp only [go_sem]
      refine Br_split (fun h => ?_) (fun h => ?_) <;> simp only [go_sem, h]
      · rw [h] at hx
        simp only [if_true] at hx
        rw [hx]; assumption
      · rw [h] at hx
        simp only [Bool.false_eq_true, if_false] at hx
        exact ⟨i + 1, ⟨hlt, hx⟩, by omega, by simp [ForgetTo, EW, VW, BBq, Env.look, pubV, w64 (n := (i : Int) + 1) (by omega) (by omega)]⟩
    · have hlt : ¬ i < l.length := by simpa using h
      have : l.drop i = [] := List.drop_eq_nil_of_le (by omega)
      rw [this] at hx
      simp only [idx] at hx
      rw [hx]; assumption

theorem c89 {α : Type} {enc : α → D} (he : Enc 3 (Tt 64) enc) {H : Heap} {Q : V → Heap → Prop} (l : List α) (hl : l.length ≤ 4294967296) (k : Nat) (fx fy : List V) (p : α → Bool) (hf : ∀ x ∈ l, ∀ Q, Q (.d (.bool (p x))) H → ACallV prog (.fn (.func k) fx fy) [.d (enc x)] H Q) (h : Q (.d (.bool (l.any p))) H) :
    ACalls prog 89 [.d (.sl (l.map enc)), .fn (.func k) fx fy] H Q := by
  refine ACalls.run (fun _ => false) tt_ok (fn := f89) (rs := [.tmp 4]) rfl rfl rfl rfl rfl rfl rfl ?_
  simp only [go_sem]
  refine c112 he l hl k fx fy p hf ?_
  simp only [go_sem]
  rw [idx_ge p l 0 (by omega)]
  exact h

theorem c136 {α : Type} {enc : α → D} (he : Enc 4 (Tt 74) enc) {H : Heap} {Q : V → Heap → Prop} (l : List α) (hl : l.length ≤ 4294967296) (k : Nat) (fx fy : List V) (p : α → Bool) (hf : ∀ x ∈ l, ∀ Q, Q (.d (.bool (p x))) H → ACallV prog (.fn (.func k) fx fy) [.d (enc x)] H Q) (h : Q (.d (.int .i64 (idx p l 0))) H) :
    ACalls prog 136 [.d (.sl (l.map enc)), .fn (.func k) fx fy] H Q := by
  refine ACalls.run (fun _ => false) tt_ok (fn := f136) (rs := [.tmp 4]) rfl rfl rfl rfl rfl rfl rfl ?_
  simp only [go_sem]
  refine ALoop.by (S := Nat) (fun i => [(8, .d (.int .i64 i)), (7, .d (.int .i64 l.length)), (0, .d (.sl (l.map enc))), (1, .fn (.func k) fx fy)]) (fun _ => H) (fun i => l.length - i) (fun i => i ≤ l.length ∧ idx p (l.drop i) i = idx p l 0) 0 (Nat.le_refl _) (fun _ h => nomatch h) ⟨Nat.zero_le _, rfl⟩ ?_ ?_
  · simp [ForgetTo, EW, VW, BBq, Env.look, pubV]
  · rintro i ⟨hi, hx⟩ hn
    refine AWP.run (fun _ => false) tt_ok (fun _ h => nomatch h) hn rfl ?_
    simp only [go_sem]
    refine Br_split (fun h => ?_) (fun h => ?_) <;> simp only [go_sem, h]
    · have hlt : i < l.length := by simpa using h
      rw [idx_drop p hlt] at hx
      have he1 := (he l[i]).1
      have he2 := (he l[i]).2
      simp only [go_sem, he1] at he2
      rw [idx_nat, List.getElem?_map, List.getElem?_eq_getElem hlt]
      simp only [go_sem, he1, he2]
      refine hf _ (List.getElem_mem hlt) _ ?_
      simp only [go_sem]
      refine Br_split (fun h => ?_) (fun h => ?_) <;> simp only [go_sem, h]
      · rw [h] at hx
        simp only [if_true] at hx
        rw [hx]; assumption
      · rw [h] at hx
        simp only [Bool.false_eq_true, if_false] at hx
        exact ⟨i + 1, ⟨hlt, hx⟩, by omega, by simp [ForgetTo, EW, VW, BBq, Env.look, pubV, w64 (n := (i : Int) + 1) (by omega) (by omega)]⟩
    · have hlt : ¬ i < l.length := by simpa using h
      have : l.drop i = [] := List.drop_eq_nil_of_le (by omega)
      rw [this] at hx
      simp only [idx] at hx
      rw [hx]; assumption

theorem c117 {α : Type} {enc : α → D} (he : Enc 4 (Tt 74) enc) {H : Heap} {Q : V → Heap → Prop} (l : List α) (hl : l.length ≤ 4294967296) (k : Nat) (fx fy : List V) (p : α → Bool) (hf : ∀ x ∈ l, ∀ Q, Q (.d (.bool (p x))) H → ACallV prog (.fn (.func k) fx fy) [.d (enc x)] H Q) (h : Q (.d (.bool (l.any p))) H) :
    ACalls prog 117 [.d (.sl (l.map enc)), .fn (.func k) fx fy] H Q := by
  refine ACalls.run (fun _ => false) tt_ok (fn := f117) (rs := [.tmp 4]) rfl rfl rfl rfl rfl rfl rfl ?_
  simp only [go_sem]
  refine c136 he l hl k fx fy p hf ?_
  simp only [go_sem]
  rw [idx_ge p l 0 (by omega)]
  exact h

theorem c120 {α : Type} {enc : α → D} (he : Enc 2 (Tt 83) enc) {H : Heap} {Q : V → Heap → Prop} (l : List α) (hl : l.length ≤ 4294967296) (k : Nat) (fx fy : List V) (p : α → Bool) (hf : ∀ x ∈ l, ∀ Q, Q (.d (.bool (p x))) H → ACallV prog (.fn (.func k) fx fy) [.d (enc x)] H Q) (h : Q (.d (.int .i64 (idx p l 0))) H) :
    ACalls prog 120 [.d (.sl (l.map enc)), .fn (.func k) fx fy] H Q := by
  refine ACalls.run (fun _ => false) tt_ok (fn := f120) (rs := [.tmp 4]) rfl rfl rfl rfl rfl rfl rfl ?_
  simp only [go_sem]
  refine ALoop.by (S := Nat) (fun i => [(8, .d (.int .i64 i)), (7, .d (.int .i64 l.length)), (0, .d (.sl (l.map enc))), (1, .fn (.func k) fx fy)]) (fun _ => H) (fun i => l.length - i) (fun i => i ≤ l.length ∧ idx p (l.drop i) i = idx p l 0) 0 (Nat.le_refl _) (fun _ h => nomatch h) ⟨Nat.zero_le _, rfl⟩ ?_ ?_
  · simp [ForgetTo, EW, VW, BBq, Env.look, pubV]
  · rintro i ⟨hi, hx⟩ hn
    refine AWP.run (fun _ => false) tt_ok (fun _ h => nomatch h) hn rfl ?_
    simp only [go_sem]
    refine Br_split (fun h => ?_) (fun h => ?_) <;> simp only [go_sem, h]
    · have hlt : i < l.length := by simpa using h
      rw [idx_drop p hlt] at hx
      have he1 := (he l[i]).1
      have he2 := (he l[i]).2
      simp only [go_sem, he1] at he2
      rw [idx_nat, List.getElem?_map, List.getElem?_eq_getElem hlt]
      simp only [go_sem, he1, he2]
      refine hf _ (List.getElem_mem hlt) _ ?_
      simp only [go_sem]
      refine Br_split (fun h => ?_) (fun h => ?_) <;> simp only [go_sem, h]
      · rw [h] at hx
        simp only [if_true] at hx
        rw [hx]; assumption
      · rw [h] at hx
        simp only [Bool.false_eq_true, if_false] at hx
        exact ⟨i + 1, ⟨hlt, hx⟩, by omega, by simp [ForgetTo, EW, VW, BBq, Env.look, pubV, w64 (n := (i : Int) + 1) (by omega) (by omega)]⟩
    · have hlt : ¬ i < l.length := by simpa using h
      have : l.drop i = [] := List.drop_eq_nil_of_le (by omega)
      rw [this] at hx
      simp only [idx] at hx
      rw [hx]; assumption

theorem c100 {α : Type} {enc : α → D} (he : Enc 2 (Tt 83) enc) {H : Heap} {Q : V → Heap → Prop} (l : List α) (hl : l.length ≤ 4294967296) (k : Nat) (fx fy : List V) (p : α → Bool) (hf : ∀ x ∈ l, ∀ Q, Q (.d (.bool (p x))) H → ACallV prog (.fn (.func k) fx fy) [.d (enc x)] H Q) (h : Q (.d (.bool (l.any p))) H) :
    ACalls prog 100 [.d (.sl (l.map enc)), .fn (.func k) fx fy] H Q := by
  refine ACalls.run (fun _ => false) tt_ok (fn := f100) (rs := [.tmp 4]) rfl rfl rfl rfl rfl rfl rfl ?_
  simp only [go_sem]
  refine c120 he l hl k fx fy p hf ?_
  simp only [go_sem]
  rw [idx_ge p l 0 (by omega)]
  exact h

end Go.Aw
end

section
set_option maxRecDepth 100000
namespace Go.Aw
open Go Go.Proofs.Try

theorem c105 {n a b : Int} {i j : Nat} {H : Heap} {Q : V → Heap → Prop} (h0 : H[i]? = some (.cells [.d (.int .i64 a)])) (h1 : H[j]? = some (.cells [.d (.int .i64 b)])) (h : Q (.d (.bool (decide (n < a) || decide (b < n)))) H) :
    ACalls prog 105 [.d (.int .i64 n), .ptr i 0, .ptr j 0] H Q := by
  refine ACalls.run (fun _ => false) tt_ok (fn := f105) (rs := [.tmp 4]) rfl rfl rfl rfl rfl rfl rfl ?_
  simp only [go_sem, h0, h1]
  refine Br_split (fun hc => ?_) (fun hc => ?_) <;> simp only [go_sem, h0, h1, hc]
  · rw [hc] at h; exact h
  · rw [hc] at h; exact h

def within (a b : Int) (l : List Int) : Bool := !l.any fun n => decide (n < a) || decide (b < n)

theorem within_all {a b : Int} {l : List Int} : within a b l = true ↔ ∀ n ∈ l, a ≤ n ∧ n ≤ b := by
  simp only [within, Bool.not_eq_true', ← Bool.not_eq_true, List.any_eq_true, Bool.or_eq_true, decide_eq_true_eq, not_exists, not_and, not_or]
  exact ⟨fun h n hn => by have := h n hn; omega, fun h n hn => by have := h n hn; omega⟩

theorem within_one {a b n : Int} : within a b [n] = true ↔ a ≤ n ∧ n ≤ b := by simp [within_all]
theorem within_two {a b m n : Int} : within a b [m, n] = true ↔ (a ≤ m ∧ m ≤ b) ∧ a ≤ n ∧ n ≤ b := by simp [within_all]

theorem enc_int : Enc 1 (Tt 3) (D.int .i64) := fun x => ⟨rfl, rfl⟩

theorem c68 (a b : Int) (l : List Int) (hl : l.length ≤ 4294967296) : PC prog 68 [.d (.int .i64 a), .d (.int .i64 b), .d (.sl (l.map (.int .i64)))] (.d (.bool (within a b l))) := by
  refine PC.run (fun _ => false) tt_ok (fn := f68) (rs := [.tmp 6]) rfl rfl rfl rfl rfl rfl rfl ?_
  simp only [go_sem]
  refine ACallV.of rfl (c104 enc_int l hl 105 [] [.ptr 0 0, .ptr 1 0] (fun n => decide (n < a) || decide (b < n)) (fun x _ Q h => ACallV.of rfl (c105 rfl rfl h)) ?_)
  simp only [go_sem, within]

/-- A span. -/
structure Sp where
  lo : Int
  hi : Int
deriving DecidableEq

def Sp.d (s : Sp) : D := .agg [.int .i64 s.lo, .int .i64 s.hi]

theorem c67 (a b : Int) (s : Sp) : PC prog 67 [.d (.int .i64 a), .d (.int .i64 b), .d s.d] (.d (.bool (within a b [s.lo, s.hi] && decide (s.lo ≤ s.hi)))) := by
  refine PC.run (fun _ => false) tt_ok (fn := f67) (rs := [.tmp 6]) rfl rfl rfl rfl rfl rfl rfl ?_
  simp only [go_sem, Sp.d]
  refine (c68 a b [s.lo, s.hi] (by simp)).call rfl rfl rfl ?_
  simp only [go_sem]
  refine Br_split (fun hc => ?_) (fun hc => ?_) <;> simp only [go_sem, hc]

/-- A slip. -/
structure Slip where
  thick : Sp
  ounces : Sp
  pence : Int
deriving DecidableEq

def Slip.d (s : Slip) : D := .agg [.int .i64 s.thick.lo, .int .i64 s.thick.hi, .int .i64 s.ounces.lo, .int .i64 s.ounces.hi, .int .i64 s.pence]

theorem enc_slip : Enc 5 (Tt 108) Slip.d := fun x => ⟨rfl, rfl⟩

/-- Works. -/
structure Works where
  slips : List Slip
  hides : Int
  drops : Int
deriving DecidableEq

def Works.d (w : Works) : D := .agg [.sl (w.slips.map Slip.d), .int .i64 w.hides, .int .i64 w.drops]

def badSlip (s : Slip) : Bool :=
  !(within 1 60 [s.thick.lo, s.thick.hi] && decide (s.thick.lo ≤ s.thick.hi)) || decide (10 ≤ IntKind.i64.wrap (s.thick.hi - s.thick.lo)) || !(within 0 20 [s.ounces.lo, s.ounces.hi] && decide (s.ounces.lo ≤ s.ounces.hi)) || !within 0 100 [s.pence]

theorem c66 (s : Slip) : PC prog 66 [.d s.d] (.d (.bool (badSlip s))) := by
  refine PC.run (fun _ => false) tt_ok (fn := f66) (rs := [.tmp 2]) rfl rfl rfl rfl rfl rfl rfl ?_
  simp only [go_sem, Slip.d]
  refine (c67 1 60 s.thick).call rfl rfl rfl ?_
  simp only [go_sem]
  refine Br_split (fun hc => ?_) (fun hc => ?_)
  · simp only [go_sem, hc, badSlip, Bool.true_or]
  · simp only [go_sem, hc]
    refine Br_split (fun hd => ?_) (fun hd => ?_)
    · simp only [go_sem, hc, hd, badSlip, Bool.true_or, Bool.or_true]
    · simp only [go_sem, hc, hd]
      refine (c67 0 20 s.ounces).call rfl rfl rfl ?_
      simp only [go_sem, hc, hd]
      refine Br_split (fun he => ?_) (fun he => ?_)
      · simp only [go_sem, hc, hd, he, badSlip, Bool.true_or, Bool.or_true]
      · simp only [go_sem, hc, hd, he]
        refine (c68 0 100 [s.pence] (by simp)).call rfl rfl rfl ?_
        simp only [go_sem, hc, hd, he, badSlip, Bool.false_or]

def checkP (w : Works) : Int := if (!within 1 4 [(w.slips.length : Int)] || !within 1 400 [w.hides, w.drops] || decide (w.drops < w.hides)) = true then 4 else if w.slips.any badSlip = true then 2 else 0

theorem c16 (w : Works) (hl : w.slips.length ≤ 4294967296) : PC prog 16 [.d w.d] (.d (.int .i64 (checkP w))) := by
  refine PC.run (fun _ => false) tt_ok (fn := f16) (rs := [.tmp 2]) rfl rfl rfl rfl rfl rfl rfl ?_
  simp only [go_sem, Works.d, List.length_map]
  refine (c68 1 4 [(w.slips.length : Int)] (by simp)).call rfl rfl rfl ?_
  simp only [go_sem]
  refine Br_split (fun hc => ?_) (fun hc => ?_)
  · simp only [go_sem, hc, checkP, Bool.true_or]
  · simp only [go_sem, hc]
    refine (c68 1 400 [w.hides, w.drops] (by simp)).call rfl rfl rfl ?_
    simp only [go_sem, hc]
    refine Br_split (fun hd => ?_) (fun hd => ?_)
    · simp only [go_sem, hc, hd, checkP, Bool.true_or, Bool.or_true]
    · simp only [go_sem, hc, hd]
      refine Br_split (fun he => ?_) (fun he => ?_)
      · simp only [go_sem, hc, hd, he, checkP, Bool.true_or, Bool.or_true]
      · simp only [go_sem, hc, hd, he]
        refine ACallV.of rfl (c69 enc_slip w.slips hl 66 [] [] badSlip (fun x _ Q h => (c66 x).call rfl rfl rfl h) ?_)
        simp only [go_sem]
        refine Br_split (fun hf => ?_) (fun hf => ?_) <;> simp only [go_sem, hf, hc, hd, he, checkP, Bool.or_false, Bool.false_or]
end Go.Aw
end

section
set_option maxRecDepth 100000
namespace Go.Aw
open Go Go.Proofs.Try

structure Slip.Ok (s : Slip) : Prop where
  thick : 1 ≤ s.thick.lo ∧ s.thick.lo ≤ s.thick.hi ∧ s.thick.hi ≤ 60 ∧ s.thick.hi - s.thick.lo ≤ 9
  ounces : 0 ≤ s.ounces.lo ∧ s.ounces.lo ≤ s.ounces.hi ∧ s.ounces.hi ≤ 20
  pence : 0 ≤ s.pence ∧ s.pence ≤ 100

structure Works.Ok (w : Works) : Prop where
  len : 1 ≤ w.slips.length ∧ w.slips.length ≤ 4
  most : 1 ≤ w.hides ∧ w.hides ≤ w.drops ∧ w.drops ≤ 400
  slips : ∀ s ∈ w.slips, s.Ok

theorem badSlip_iff {s : Slip} : badSlip s = false ↔ s.Ok := by
  rw [badSlip, Bool.or_eq_false_iff, Bool.or_eq_false_iff, Bool.or_eq_false_iff, Bool.not_eq_false', Bool.not_eq_false', Bool.not_eq_false', Bool.and_eq_true, Bool.and_eq_true, within_two, within_two, within_one]
  simp only [decide_eq_true_eq, decide_eq_false_iff_not]
  constructor
  · rintro ⟨⟨⟨h1, h2⟩, h3⟩, h4⟩
    rw [w64 (by omega) (by omega)] at h2
    exact ⟨by omega, by omega, h4⟩
  · rintro ⟨h1, h2, h3⟩
    rw [w64 (by omega) (by omega)]
    omega

theorem checkP_iff {w : Works} : checkP w = 0 ↔ w.Ok := by
  have e : checkP w = 0 ↔ (1 ≤ (w.slips.length : Int) ∧ (w.slips.length : Int) ≤ 4) ∧ ((1 ≤ w.hides ∧ w.hides ≤ 400) ∧ 1 ≤ w.drops ∧ w.drops ≤ 400) ∧ w.hides ≤ w.drops ∧ ∀ s ∈ w.slips, badSlip s = false := by
    unfold checkP
    split
    · rename_i h
      simp only [Bool.or_eq_true, Bool.not_eq_true', ← Bool.not_eq_true, within_one, within_two, decide_eq_true_eq] at h
      constructor
      · intro h; cases h
      · rintro ⟨h1, h2, h3, _⟩
        rcases h with (h | h) | h
        · exact absurd h1 h
        · exact absurd h2 h
        · omega
    · rename_i h
      simp only [Bool.or_eq_true, Bool.not_eq_true', ← Bool.not_eq_true, within_one, within_two, decide_eq_true_eq, not_or, Classical.not_not] at h
      split
      · rename_i h2
        constructor
        · intro h; cases h
        · rintro ⟨_, _, _, h4⟩
          obtain ⟨s, hs, hb⟩ := List.any_eq_true.1 h2
          rw [h4 s hs] at hb
          cases hb
      · rename_i h2
        refine ⟨fun _ => ⟨h.1.1, h.1.2, by omega, fun s hs => ?_⟩, fun _ => rfl⟩
        cases hb : badSlip s with
        | false => rfl
        | true => exact absurd (List.any_eq_true.2 ⟨s, hs, hb⟩) h2
  rw [e]
  constructor
  · rintro ⟨h1, h2, h3, h4⟩
    exact ⟨by omega, by omega, fun s hs => badSlip_iff.1 (h4 s hs)⟩
  · rintro ⟨h1, h2, h3⟩
    exact ⟨by omega, by omega, by omega, fun s hs => badSlip_iff.2 (h3 s hs)⟩

def wrkB (w : Works) : Blk := .cells [.d (.sl (w.slips.map Slip.d)), .d (.int .i64 w.hides), .d (.int .i64 w.drops)]

theorem c70 (w : Works) (hl : w.slips.length ≤ 4294967296) : PC prog 70 [.d w.d] (.tup [.d w.d, .d (.int .i64 (checkP w))]) := by
  refine PC.run (fun _ => false) tt_ok (fn := f70) (rs := [.cell 2 133, .tmp 3]) rfl rfl rfl rfl rfl rfl rfl ?_
  simp only [go_sem, Works.d]
  refine ADrw.treeG (fun _ => false) tt_ok (by kernel_rfl) (fun k => if k = 0 ∨ k = 2 then some .L else if k = 4 then some .W else some .S) (.ones [0, 1, 2, 3, 4, 5] .done) (Nat.zero_le _) (fun _ h => nomatch h) rfl rfl (by kernel_rfl) ?_
  simp only [go_sem]
  refine (c16 w hl).callS rfl rfl rfl rfl rfl rfl ?_
  simp only [go_sem]

/-- Is a list coats? -/
def coatsP (w : Works) (l : List Int) : Bool := decide (l.length ≤ 8) && within 0 ((w.slips.length : Int) - 1) l

theorem c71 (w : Works) (hw : w.slips.length ≤ 4294967296) (l : List Int) (hl : l.length ≤ 4294967296) : PC prog 71 [.d w.d, .d (.sl (l.map (.int .i64)))] (.d (.bool (coatsP w l))) := by
  refine PC.run (fun _ => false) tt_ok (fn := f71) (rs := [.tmp 4]) rfl rfl rfl rfl rfl rfl rfl ?_
  have hx : IntKind.i64.wrap ((w.slips.length : Int) - 1) = (w.slips.length : Int) - 1 := w64 (by omega) (by omega)
  simp only [go_sem, Works.d, List.length_map]
  by_cases h : l.length ≤ 8
  · have d1 : decide ((l.length : Int) ≤ 8) = true := by simp only [decide_eq_true_eq]; omega
    have d2 : decide (l.length ≤ 8) = true := by simpa using h
    simp only [go_sem, d1, hx, List.length_map]
    refine (c68 0 ((w.slips.length : Int) - 1) l hl).call rfl rfl rfl ?_
    simp only [go_sem, coatsP, d2, Bool.true_and]
  · have d1 : decide ((l.length : Int) ≤ 8) = false := by simp only [decide_eq_false_iff_not]; omega
    have d2 : decide (l.length ≤ 8) = false := by simpa using h
    simp only [go_sem, d1, coatsP, d2, Bool.false_and]

theorem coatsP_iff {w : Works} {l : List Int} : coatsP w l = true ↔ l.length ≤ 8 ∧ ∀ n ∈ l, 0 ≤ n ∧ n < w.slips.length := by
  rw [coatsP, Bool.and_eq_true, decide_eq_true_eq, within_all]
  exact and_congr_right fun _ => ⟨fun h n hn => by have := h n hn; omega, fun h n hn => by have := h n hn; omega⟩

/-- How many coats there are of a slip. -/
def cntF (l : List Int) (k : Int) : Int := (l.count k : Nat)

def cntD (f : Int → Int) : D := .agg [.int .i64 (f 0), .int .i64 (f 1), .int .i64 (f 2), .int .i64 (f 3)]
def cntB (f : Int → Int) : Blk := .cells [.d (.int .i64 (f 0)), .d (.int .i64 (f 1)), .d (.int .i64 (f 2)), .d (.int .i64 (f 3))]

theorem cntF_le (l : List Int) (k : Int) : 0 ≤ cntF l k ∧ cntF l k ≤ l.length := by
  have := List.count_le_length (a := k) (l := l)
  simp only [cntF]; omega

theorem cntF_snoc (l : List Int) (x k : Int) : cntF (l ++ [x]) k = cntF l k + if x = k then 1 else 0 := by
  simp only [cntF, List.count_append, List.count_singleton]
  by_cases h : x = k
  · subst h; simp
  · simp [h]

theorem c72 (l : List Int) (hl : l.length ≤ 1000) (hm : ∀ n ∈ l, 0 ≤ n ∧ n < 4) : PC prog 72 [.d (.sl (l.map (.int .i64)))] (.d (cntD (cntF l))) := by
  refine PC.run (fun _ => false) tt_ok (fn := f72) (rs := [.cell 2 138]) rfl rfl rfl rfl rfl rfl rfl ?_
  simp only [go_sem]
  refine ALoop.by (S := Nat) (fun i => [(7, .d (.int .i64 i)), (6, .d (.int .i64 l.length)), (5, .d (.sl (l.map (.int .i64)))), (2, .ptr 0 0)]) (fun i => [cntB (cntF (l.take i))]) (fun i => l.length - i) (fun i => i ≤ l.length) 0 (Nat.zero_le _) (fun _ h => nomatch h) (Nat.zero_le _) ?_ ?_
  · exact ForgetTo.same' (Nat.zero_le _) (by simp [EWe, Env.look]) (by simp [cntB, cntF])
  rintro i hi hn
  refine AWP.run (fun _ => false) tt_ok (fun _ h => nomatch h) (Nat.zero_le _) rfl ?_
  simp only [go_sem, cntB]
  refine Br_split (fun hd => ?_) (fun hd => ?_) <;> simp only [go_sem, hd]
  · have hlt : i < l.length := by simpa using hd
    have hix : idx? (l.map (D.int .i64)) (i : Int) = some (.int .i64 l[i]) := by simp [idx?, List.getElem?_eq_getElem hlt]
    have hms := hm _ (List.getElem_mem hlt)
    have hst : ∀ k, cntF (l.take (i + 1)) k = cntF (l.take i) k + if l[i] = k then 1 else 0 := fun k => by rw [List.take_succ_eq_append_getElem hlt, cntF_snoc]
    have hle := fun k => cntF_le (l.take i) k
    have hlen : (l.take i).length = i := by simp; omega
    have hw : ∀ k, IntKind.i64.wrap (cntF (l.take i) k + 1) = cntF (l.take i) k + 1 := fun k => by have := hle k; exact w64 (by omega) (by omega)
    have hnx : IntKind.i64.wrap ((i : Int) + 1) = (i : Int) + 1 := w64 (by omega) (by omega)
    generalize cntF (l.take i) = c at *
    generalize l[i] = s at *
    have hs : s = 0 ∨ s = 1 ∨ s = 2 ∨ s = 3 := by omega
    rcases hs with rfl | rfl | rfl | rfl
    all_goals
      simp only [go_sem, hix, hw]
      refine ⟨i + 1, hlt, by omega, ?_⟩
      exact ForgetTo.same' (Nat.zero_le _) (by simp [EWe, Env.look, hnx]) (by simp [cntB, hst])
  · have hie : i = l.length := by simp only [decide_eq_false_iff_not] at hd; omega
    subst hie
    rw [List.take_length]
    simp only [go_sem, cntD]

/-- How thick coats are, by the first slips. -/
def spanF (w : Works) (c : Int → Int) (i : Nat) : Sp :=
  ⟨((w.slips.zipIdx.take i).map fun p => c p.2 * p.1.thick.lo).sum, ((w.slips.zipIdx.take i).map fun p => c p.2 * p.1.thick.hi).sum⟩

def Works.sl (w : Works) (i : Nat) : Slip := w.slips.getD i ⟨⟨1, 1⟩, ⟨0, 0⟩, 0⟩

theorem Works.Ok.sl {w : Works} (h : w.Ok) (i : Nat) : (w.sl i).Ok := by
  unfold Works.sl
  rw [List.getD_eq_getElem?_getD]
  cases e : w.slips[i]? with
  | none => exact ⟨by decide, by decide, by decide⟩
  | some s => exact h.slips s (List.mem_of_getElem? e)

theorem Works.at {w : Works} {i : Nat} (h : i < w.slips.length) : idx? (w.slips.map Slip.d) (i : Int) = some (w.sl i).d := by
  simp [idx?, Works.sl, List.getD_eq_getElem?_getD, List.getElem?_eq_getElem h]

theorem spanF_succ {w : Works} {c : Int → Int} {i : Nat} (h : i < w.slips.length) : spanF w c (i + 1) = ⟨(spanF w c i).lo + c i * (w.sl i).thick.lo, (spanF w c i).hi + c i * (w.sl i).thick.hi⟩ := by
  have e : w.slips.zipIdx.take (i + 1) = w.slips.zipIdx.take i ++ [(w.sl i, i)] := by
    rw [List.take_succ_eq_append_getElem (by simpa using h)]
    simp [Works.sl, List.getD_eq_getElem?_getD, List.getElem?_eq_getElem h]
  simp only [spanF, e, List.map_append, List.sum_append, List.map_cons, List.map_nil, List.sum_cons, List.sum_nil, Int.add_zero]

theorem spanF_bnd {w : Works} (hok : w.Ok) {c : Int → Int} (hc : ∀ k, 0 ≤ c k ∧ c k ≤ 100) : ∀ i, i ≤ w.slips.length → 0 ≤ (spanF w c i).lo ∧ (spanF w c i).lo ≤ (spanF w c i).hi ∧ (spanF w c i).hi ≤ 6000 * i
  | 0, _ => by simp [spanF]
  | i + 1, h => by
    have ih := spanF_bnd hok hc i (by omega)
    have hs := (hok.sl i).thick
    have hi := hc i
    rw [spanF_succ h]
    have h1 : 0 ≤ c i * (w.sl i).thick.lo := Int.mul_nonneg hi.1 (by omega)
    have h2 : c i * (w.sl i).thick.lo ≤ c i * (w.sl i).thick.hi := Int.mul_le_mul_of_nonneg_left hs.2.1 hi.1
    have h3 : c i * (w.sl i).thick.hi ≤ 100 * 60 := Int.mul_le_mul hi.2 hs.2.2.1 (by omega) (by omega)
    simp only
    omega

def spanP (w : Works) (c : Int → Int) : Sp := spanF w c w.slips.length

theorem cnt_head (c : Int → Int) {i : Nat} (h : i < 4) : headV (List.drop i [V.d (.int .i64 (c 0)), .d (.int .i64 (c 1)), .d (.int .i64 (c 2)), .d (.int .i64 (c 3))]) = some (.d (.int .i64 (c i))) := by
  have h4 : i = 0 ∨ i = 1 ∨ i = 2 ∨ i = 3 := by omega
  rcases h4 with rfl | rfl | rfl | rfl <;> rfl

theorem c77 {w : Works} (hok : w.Ok) {c : Int → Int} (hc : ∀ k, 0 ≤ c k ∧ c k ≤ 100) : PC prog 77 [.d w.d, .d (cntD c)] (.d (spanP w c).d) := by
  obtain ⟨l1, l2⟩ := hok.len
  refine PC.run (fun _ => false) tt_ok (fn := f77) (rs := [.cell 4 31]) rfl rfl rfl rfl rfl rfl rfl ?_
  simp only [go_sem, Works.d, cntD, List.length_map]
  refine ALoop.by (S := Nat) (fun i => [(11, .d (.int .i64 i)), (10, .d (.int .i64 w.slips.length)), (9, .d (.sl (w.slips.map Slip.d))), (4, .ptr 2 0), (3, .ptr 1 0)]) (fun i => [wrkB w, cntB c, .cells [.d (.int .i64 (spanF w c i).lo), .d (.int .i64 (spanF w c i).hi)]]) (fun i => w.slips.length - i) (fun i => i ≤ w.slips.length) 0 (Nat.zero_le _) (fun _ h => nomatch h) (Nat.zero_le _) ?_ ?_
  · exact ForgetTo.same' (Nat.zero_le _) (by simp [EWe, Env.look]) (by simp [wrkB, cntB, spanF])
  rintro i hi hn
  refine AWP.run (fun _ => false) tt_ok (fun _ h => nomatch h) (Nat.zero_le _) rfl ?_
  simp only [go_sem, wrkB, cntB]
  refine Br_split (fun hd => ?_) (fun hd => ?_) <;> simp only [go_sem, hd]
  · have hlt : i < w.slips.length := by simpa using hd
    have hix := Works.at hlt
    have hb := spanF_bnd hok hc (i + 1) (by omega)
    have hb0 := spanF_bnd hok hc i (by omega)
    have hst := spanF_succ (c := c) hlt
    rw [hst] at hb
    simp only at hb
    have hs := (hok.sl i).thick
    have hci := hc i
    have h1 : 0 ≤ c i * (w.sl i).thick.lo := Int.mul_nonneg hci.1 (by omega)
    have h2 : 0 ≤ c i * (w.sl i).thick.hi := Int.mul_nonneg hci.1 (by omega)
    have hhv := cnt_head c (i := i) (by omega)
    have hc0 : (0 : Int) ≤ (i : Int) := by omega
    have hc1 : (i : Int) < 4 := by omega
    have hnx : IntKind.i64.wrap ((i : Int) + 1) = (i : Int) + 1 := w64 (by omega) (by omega)
    have w1 : IntKind.i64.wrap (c i * (w.sl i).thick.lo) = c i * (w.sl i).thick.lo := w64 (by omega) (by omega)
    have w2 : IntKind.i64.wrap (c i * (w.sl i).thick.hi) = c i * (w.sl i).thick.hi := w64 (by omega) (by omega)
    have w3 : IntKind.i64.wrap ((spanF w c i).lo + c i * (w.sl i).thick.lo) = (spanF w c i).lo + c i * (w.sl i).thick.lo := w64 (by omega) (by omega)
    have w4 : IntKind.i64.wrap ((spanF w c i).hi + c i * (w.sl i).thick.hi) = (spanF w c i).hi + c i * (w.sl i).thick.hi := w64 (by omega) (by omega)
    simp only [go_sem, hix, Slip.d]
    refine ADrw.treeG (fun _ => false) tt_ok (by kernel_rfl) (fun k => if k = 1 ∨ k = 4 ∨ k = 7 then some .L else if k = 11 then some .W else some .S) (.ones [0, 1, 2, 3, 4, 5, 6, 7, 8, 9, 10, 11] .done) (Nat.zero_le _) (fun _ h => nomatch h) rfl rfl (by kernel_rfl) ?_
    simp only [go_sem, hc0, hc1, Int.toNat_natCast, Nat.mul_one, Nat.zero_add, hhv, w1, w3]
    refine ADrw.treeG (fun _ => false) tt_ok (by kernel_rfl) (fun k => if k = 1 ∨ k = 4 ∨ k = 7 then some .L else if k = 11 then some .W else some .S) (.ones [0, 1, 2, 3, 4, 5, 6, 7, 8, 9, 10, 11] .done) (Nat.zero_le _) (fun _ h => nomatch h) rfl rfl (by kernel_rfl) ?_
    simp only [go_sem, hc0, hc1, Int.toNat_natCast, Nat.mul_one, Nat.zero_add, hhv, w2, w4]
    refine ⟨i + 1, hlt, by omega, ?_⟩
    refine ForgetTo.drop (H0 := [_, _, _]) (Y := [_]) (Nat.zero_le _) ?_ (by simp [BBs, BB, VBs, VB, wrkB, cntB]) ?_
    · rw [hst] <;> simp [wrkB, cntB]
    · simp [EWp, Env.look, pubV, hnx]
  · have hie : i = w.slips.length := by simp only [decide_eq_false_iff_not] at hd; omega
    subst hie
    simp only [go_sem, spanP, Sp.d]

/-- How a sign comes out. -/
def howF (w : Works) (n : Int) : Int := if n < w.hides then 1 else if n > w.drops then 3 else 2

theorem c74 (w : Works) (n : Int) : PC prog 74 [.d w.d, .d (.int .i64 n)] (.d (.int .i64 (howF w n))) := by
  refine PC.run (fun _ => false) tt_ok (fn := f74) (rs := [.tmp 4]) rfl rfl rfl rfl rfl rfl rfl ?_
  simp only [go_sem, Works.d]
  refine Br_split (fun h1 => ?_) (fun h1 => ?_) <;> simp only [go_sem, h1]
  · simp only [decide_eq_true_eq] at h1
    rw [howF, if_pos h1]
  · simp only [decide_eq_false_iff_not] at h1
    refine Br_split (fun h2 => ?_) (fun h2 => ?_) <;> simp only [go_sem, h2]
    · simp only [decide_eq_true_eq] at h2
      rw [howF, if_neg h1, if_pos (by omega)]
    · simp only [decide_eq_false_iff_not] at h2
      rw [howF, if_neg h1, if_neg (by omega)]

def goodP (w : Works) (c : Int → Int) : Bool := decide (howF w (spanP w c).lo = 2) && decide (howF w (spanP w c).hi = 2)

theorem c103 {w : Works} (hok : w.Ok) {c : Int → Int} (hc : ∀ k, 0 ≤ c k ∧ c k ≤ 100) : PC prog 103 [.d w.d, .d (cntD c)] (.d (.bool (goodP w c))) := by
  refine PC.run (fun _ => false) tt_ok (fn := f103) (rs := [.tmp 4]) rfl rfl rfl rfl rfl rfl rfl ?_
  simp only [go_sem, Works.d, cntD]
  refine (c77 hok hc).call rfl rfl rfl ?_
  simp only [go_sem, Sp.d]
  refine (c74 w (spanP w c).lo).call rfl rfl rfl ?_
  simp only [go_sem]
  refine Br_split (fun h1 => ?_) (fun h1 => ?_) <;> simp only [go_sem, h1]
  · refine (c74 w (spanP w c).hi).call rfl rfl rfl ?_
    simp only [go_sem, goodP, h1, Bool.true_and]
  · simp only [goodP, h1, Bool.false_and]
end Go.Aw
end

section
set_option maxRecDepth 100000
namespace Go.Aw
open Go Go.Proofs.Try

theorem c144 (n : Int) : PC prog 144 [.d (.int .i64 n)] (.d (.bool false)) := by
  refine PC.run (fun _ => false) tt_ok (fn := f144) (rs := [.tmp 2]) rfl rfl rfl rfl rfl rfl rfl ?_
  simp only [go_sem]

def ltI (x y : Int) : Bool := decide (x < y)

theorem c130 (x y : Int) : PC prog 130 [.d (.int .i64 x), .d (.int .i64 y)] (.d (.bool (ltI x y))) := by
  refine PC.run (fun _ => false) tt_ok (fn := f130) (rs := [.tmp 4]) rfl rfl rfl rfl rfl rfl rfl ?_
  simp only [go_sem]
  refine (c144 x).call rfl rfl rfl ?_
  simp only [go_sem, ltI]

theorem getD_eq {l : List Int} {i : Nat} (h : i < l.length) : l.getD i 0 = l[i] := by
  rw [List.getD_eq_getElem?_getD, List.getElem?_eq_getElem h]; rfl

/-- An element sinks to its place. -/
def sink (lt : Int → Int → Bool) : Nat → List Int → List Int
  | 0, l => l
  | j + 1, l => if lt (l.getD (j + 1) 0) (l.getD j 0) = true then sink lt j ((l.set (j + 1) (l.getD j 0)).set j (l.getD (j + 1) 0)) else l

theorem sink_len (lt : Int → Int → Bool) : ∀ (j : Nat) (l : List Int), (sink lt j l).length = l.length
  | 0, _ => rfl
  | j + 1, l => by
    simp only [sink]
    split
    · rw [sink_len lt j]; simp
    · rfl

def isortI (lt : Int → Int → Bool) (l : List Int) (i : Nat) : List Int := (List.range i).foldl (fun l i => sink lt (i + 1) l) l

theorem isortI_succ (lt : Int → Int → Bool) (l : List Int) (i : Nat) : isortI lt l (i + 1) = sink lt (i + 1) (isortI lt l i) := by
  rw [isortI, List.range_succ, List.foldl_append]; rfl

theorem isortI_len (lt : Int → Int → Bool) (l : List Int) : ∀ i, (isortI lt l i).length = l.length
  | 0 => rfl
  | i + 1 => by rw [isortI_succ, sink_len, isortI_len lt l i]

def rowB (l : List Int) : Blk := .arr 1 false (l.map (.int .i64))

theorem c124 {H : Heap} {id n : Nat} {l : List Int} (hid : id < H.length) (hl : l.length = n) (hn : n ≤ 1000)
    {Q : V → Heap → Prop} (hq : Q (.tup []) (H.set id (rowB (isortI ltI l (n - 1))))) : ACalls prog 124 [.ref id n 0 n, .d (.int .i64 0), .d (.int .i64 n)] (H.set id (rowB l)) Q := by
  have hg : ∀ b : Blk, (H.set id b)[id]? = some b := fun b => by rw [List.getElem?_set_self hid]
  have hs : ∀ b b' : Blk, (H.set id b).set id b' = H.set id b' := fun b b' => by rw [List.set_set]
  have hHl : ∀ b : Blk, (H.set id b).length = H.length := fun b => by simp
  refine ACalls.run (fun _ => false) tt_ok (fn := f124) (rs := []) rfl rfl rfl rfl rfl rfl rfl ?_
  simp only [go_sem, hHl]
  refine ALoop.by (S := Nat) (fun i => [(6, .d (.int .i64 ((i + 1 : Nat)))), (0, .ref id n 0 n), (1, .d (.int .i64 0)), (2, .d (.int .i64 n))]) (fun i => H.set id (rowB (isortI ltI l i))) (fun i => n - i) (fun i => i + 1 ≤ n ∨ i = 0) 0 (by simp) (fun _ h => nomatch h) (.inr rfl) ?_ ?_
  · exact ForgetTo.same (by simp) (by simp [EWe, Env.look, w64 (n := 1) (by omega) (by omega)])
  · rintro i hi hn'
    have hil : (isortI ltI l i).length = n := by rw [isortI_len, hl]
    refine AWP.run (fun _ => false) tt_ok (fun _ h => nomatch h) (by simp) rfl ?_
    simp only [go_sem, hHl]
    refine Br_split (fun hd => ?_) (fun hd => ?_) <;> simp only [go_sem, hd]
    · have hlt1 : i + 1 < n := by simpa [-Int.natCast_add] using hd
      refine ALoop.by (S := Nat × List Int) (fun s => [(7, .d (.int .i64 s.1)), (6, .d (.int .i64 ((i + 1 : Nat)))), (0, .ref id n 0 n), (1, .d (.int .i64 0)), (2, .d (.int .i64 n))]) (fun s => H.set id (rowB s.2)) (fun s => s.1)
        (fun s => s.1 < n ∧ s.2.length = n ∧ sink ltI s.1 s.2 = sink ltI (i + 1) (isortI ltI l i)) (i + 1, isortI ltI l i) (by simp) (fun _ h => nomatch h) ⟨hlt1, hil, rfl⟩ ?_ ?_
      · exact ForgetTo.same (by simp) (by simp [EWe, Env.look])
      · rintro ⟨j, l'⟩ ⟨hj, hl', hsk⟩ hn2
        simp only at hj hl' hsk hn2 ⊢
        have next : sink ltI j l' = l' → ∃ s', (s' + 1 ≤ n ∨ s' = 0) ∧ n - s' < n - i ∧ s' = i + 1 ∧ isortI ltI l s' = l' := fun h => ⟨i + 1, by omega, by omega, rfl, by rw [isortI_succ, ← hsk, h]⟩
        refine AWP.run (fun _ => false) tt_ok (fun _ h => nomatch h) (by simp) rfl ?_
        simp only [go_sem, hHl]
        refine ADrw.treeG (fun _ => false) tt_ok (by kernel_rfl) (fun k => if k = 6 ∨ k = 7 ∨ k = 11 ∨ k = 12 then some .L else some .S) (.ones [0, 1, 2, 3, 4, 5, 6, 7, 8, 9, 10, 11, 12, 13, 14] .done) (by simp) (fun _ h => nomatch h) rfl rfl (by kernel_rfl) ?_
        cases j with
        | zero =>
          have h0 : decide (((0 : Nat) : Int) > 0) = false := rfl
          simp only [go_sem, hHl, h0]
          obtain ⟨s', g1, g2, rfl, g3⟩ := next rfl
          refine ⟨i + 1, g1, g2, ?_⟩
          rw [g3]
          exact ForgetTo.same (by simp) (by simp [EWe, Env.look, w64 (n := (i : Int) + 1 + 1) (by omega) (by omega)])
        | succ j =>
          have h0 : decide (((j + 1 : Nat) : Int) > 0) = true := decide_eq_true (by omega)
          have hw : IntKind.i64.wrap (((j + 1 : Nat) : Int) - 1) = ((j : Nat) : Int) := by rw [w64 (by omega) (by omega)]; omega
          have c1 : (0 : Int) ≤ ((j + 1 : Nat) : Int) := by omega
          have c2 : ((j + 1 : Nat) : Int) < (n : Int) := by omega
          have c3 : (0 : Int) ≤ ((j : Nat) : Int) := by omega
          have c4 : ((j : Nat) : Int) < (n : Int) := by omega
          have hj1 : j + 1 < l'.length := by omega
          have hj0 : j < l'.length := by omega
          simp only [go_sem, hHl, hg, h0, rowB, hl', hw, c1, c2, c3, c4, Int.toNat_natCast, List.getElem?_map, List.getElem?_eq_getElem hj1, List.getElem?_eq_getElem hj0]
          refine (c130 l'[j + 1] l'[j]).callS rfl rfl rfl rfl rfl rfl ?_
          simp only [go_sem, hHl, hg, h0]
          have hsk' : sink ltI (j + 1) l' = if ltI l'[j + 1] l'[j] = true then sink ltI j ((l'.set (j + 1) l'[j]).set j l'[j + 1]) else l' := by simp only [sink, getD_eq hj1, getD_eq hj0]
          refine Br_split (fun h2 => ?_) (fun h2 => ?_) <;> simp only [go_sem, hHl, hg, h0, h2]
          · rw [h2, if_pos rfl] at hsk'
            refine ADrw.treeG (fun _ => false) tt_ok (by kernel_rfl) (fun k => if k = 8 ∨ k = 9 ∨ k = 12 ∨ k = 13 ∨ k = 14 ∨ k = 16 then some .L else if k = 15 ∨ k = 17 then some .W else some .S) (.ones [0, 1, 2, 3, 4, 5, 6, 7, 8, 9, 10, 11, 12, 13, 14, 15, 16, 17] .done) (by simp) (fun _ h => nomatch h) rfl rfl (by kernel_rfl) ?_
            simp only [go_sem, hHl, hg, hs, h0, rowB, hl', hw, c1, c2, c3, c4, Int.toNat_natCast, List.getElem?_map, List.getElem?_eq_getElem hj1, List.getElem?_eq_getElem hj0, List.length_set, List.getElem?_set_ne, ne_eq, Nat.succ_ne_self, not_false_eq_true]
            refine ⟨(j, (l'.set (j + 1) l'[j]).set j l'[j + 1]), ⟨by simp only; omega, by simp [hl'], by simp only; rw [← hsk', hsk]⟩, by simp only; omega, ?_⟩
            exact ForgetTo.same' (by simp) (by simp [EWe, Env.look]) (by simp [List.map_set])
          · rw [h2, if_neg (by simp)] at hsk'
            obtain ⟨s', g1, g2, rfl, g3⟩ := next hsk'
            refine ⟨i + 1, g1, g2, ?_⟩
            rw [g3]
            exact ForgetTo.same (by simp) (by simp [EWe, Env.look, w64 (n := (i : Int) + 1 + 1) (by omega) (by omega)])
    · have hlt : ¬ i + 1 < n := by simpa [-Int.natCast_add] using hd
      have hi' : i = n - 1 := by omega
      subst hi'
      refine ⟨.inl (by simp), ?_⟩
      rw [List.take_of_length_le (by simp)]
      exact hq

theorem aindex_byte {T : Nat → Ty} {z s : ByteArray} {k : IntKind} {n : Int} {b : UInt8} (h0 : 0 ≤ n) (h : s[n.toNat]? = some b) : aindex T (.sc (.str z)) (.d (.str s)) (.d (.int k n)) = some (.d (.int .u8 b.toNat)) := by
  simp [aindex, h0, h]

theorem c134 {n : Nat} (hn : n ≤ 3) : PC prog 134 [.d (.int .u64 n)] (.d (.int .i64 (([0, 1, 2, 2] : List Int).getD n 0))) := by
  have h0 : decide ((4294967296 : Int) ≤ (n : Int)) = false := by simp; omega
  have h1 : decide ((65536 : Int) ≤ (n : Int)) = false := by simp; omega
  have h2 : decide ((256 : Int) ≤ (n : Int)) = false := by simp; omega
  have hw : IntKind.u8.wrap (n : Int) = n := by
    simp [IntKind.wrap, IntKind.bits, IntKind.signed]; omega
  refine PC.run (fun _ => false) tt_ok (fn := f134) (rs := [.tmp 2]) rfl rfl rfl rfl rfl rfl rfl ?_
  simp only [go_sem, h0, h1, h2, hw]
  have key : ∀ m : Nat, m ≤ 3 → m = 0 ∨ m = 1 ∨ m = 2 ∨ m = 3 := by omega
  rcases key n hn with rfl | rfl | rfl | rfl
  · rw [aindex_byte (b := 0) (by omega) (by kernel_rfl)]
    simp only [go_sem]
    rfl
  · rw [aindex_byte (b := 1) (by omega) (by kernel_rfl)]
    simp only [go_sem]
    rfl
  · rw [aindex_byte (b := 2) (by omega) (by kernel_rfl)]
    simp only [go_sem]
    rfl
  · rw [aindex_byte (b := 2) (by omega) (by kernel_rfl)]
    simp only [go_sem]
    rfl

theorem c109 {n : Nat} (hn : n ≤ 3) : PC prog 109 [.d (.int .u64 n)] (.d (.int .i64 (([0, 1, 2, 2] : List Int).getD n 0))) := by
  refine PC.run (fun _ => false) tt_ok (fn := f109) (rs := [.tmp 2]) rfl rfl rfl rfl rfl rfl rfl ?_
  simp only [go_sem]
  refine (c134 hn).call rfl rfl rfl ?_
  simp only [go_sem]

theorem c108 {H : Heap} {id n : Nat} {l : List Int} {lim : Int} (hid : id < H.length) (hl : l.length = n) (hn : n ≤ 12)
    {Q : V → Heap → Prop} (hq : Q (.tup []) (H.set id (rowB (isortI ltI l (n - 1))))) : ACalls prog 108 [.ref id n 0 n, .d (.int .i64 0), .d (.int .i64 n), .d (.int .i64 lim)] (H.set id (rowB l)) Q := by
  refine ACalls.run (fun _ => false) tt_ok (fn := f108) (rs := []) rfl rfl rfl rfl rfl rfl rfl ?_
  have h12 : decide ((n : Int) ≤ 12) = true := by simp; omega
  simp only [go_sem]
  refine ALoop.by (S := Unit) (fun _ => [(9, .d (.bool true)), (8, .d (.bool true)), (3, .d (.int .i64 lim)), (2, .d (.int .i64 n)), (1, .d (.int .i64 0)), (0, .ref id n 0 n)]) (fun _ => H.set id (rowB l)) (fun _ => 0) (fun _ => True) () (by simp) (fun _ h => nomatch h) trivial ?_ ?_
  · exact ForgetTo.same (by simp) (by simp [EWe, Env.look])
  rintro _ _ hn'
  refine AWP.run (fun _ => false) tt_ok (fun _ h => nomatch h) (by simp) rfl ?_
  simp only [go_sem, Int.sub_zero, w64 (n := (n : Int)) (by omega) (by omega), h12]
  refine ACallV.of rfl (c124 hid hl (by omega) ?_)
  simp only [go_sem]
  refine ⟨.inl (by simp), ?_⟩
  rw [List.take_of_length_le (by simp)]
  exact hq

theorem c76 {H : Heap} {id n : Nat} {l : List Int} (hid : id < H.length) (hl : l.length = n) (hn : n ≤ 3)
    {Q : V → Heap → Prop} (hq : Q (.tup []) (H.set id (rowB (isortI ltI l (n - 1))))) : ACalls prog 76 [.ref id n 0 n] (H.set id (rowB l)) Q := by
  have hg : (H.set id (rowB l))[id]? = some (.arr 1 false (l.map (.int .i64))) := by rw [List.getElem?_set_self hid]; rfl
  have hw : IntKind.u64.wrap (n : Int) = n := by
    simp [IntKind.wrap, IntKind.bits, IntKind.signed]; omega
  refine ACalls.run (fun _ => false) tt_ok (fn := f76) (rs := []) rfl rfl rfl rfl rfl rfl rfl ?_
  simp only [go_sem, hg, hl, hw]
  refine (c109 hn).call rfl rfl rfl ?_
  simp only [go_sem]
  refine ACallV.of rfl (c108 hid hl (by omega) ?_)
  simp only [go_sem]
  refine ⟨.inl (by simp), ?_⟩
  rw [List.take_of_length_le (by simp)]
  exact hq
end Go.Aw
end

section
set_option maxRecDepth 100000
namespace Go.Aw
open Go Go.Proofs.Try

def keyM (L : List Int) : List (D × D) := L.map fun n => (.int .i64 n, .bool true)

def insI (L : List Int) (n : Int) : List Int := if n ∈ L then L else L ++ [n]

theorem insI_mem (L : List Int) (n m : Int) : m ∈ insI L n ↔ m ∈ L ∨ m = n := by
  unfold insI
  split
  · constructor
    · exact .inl
    · rintro (h | rfl) <;> assumption
  · simp

theorem insI_nodup {L : List Int} (h : L.Nodup) (n : Int) : (insI L n).Nodup := by
  unfold insI
  split
  · exact h
  · rename_i hn
    rw [List.nodup_append]
    exact ⟨h, by simp, fun a ha b hb => by
      simp only [List.mem_singleton] at hb
      subst hb
      rintro rfl
      exact hn ha⟩

theorem key_put (n : Int) : ∀ L : List Int, mput (.int .i64 n) (.bool true) (keyM L) = some (keyM (insI L n))
  | [] => rfl
  | a :: L => by
    simp only [keyM, List.map_cons, mput, keq, if_true]
    by_cases h : n = a
    · subst h; simp [insI]
    · have hb : (n == a) = false := by simpa using h
      have ih := key_put n L
      simp only [keyM] at ih
      rw [hb]
      simp only [ih]
      by_cases hL : n ∈ L
      · simp [insI, hL]
      · simp [insI, hL, h]

/-- How thick coats can be, by the first slips. -/
def sumQ (w : Works) (c : Int → Int) : Nat → Int → Prop
  | 0, n => n = 0
  | i + 1, n => if c i = 0 then sumQ w c i n else ∃ t, ((w.sl i).thick.lo ≤ t ∧ t ≤ (w.sl i).thick.hi) ∧ sumQ w c i (n - c i * t)

theorem sumQ_bnd {w : Works} (hok : w.Ok) {c : Int → Int} (hc : ∀ k, 0 ≤ c k ∧ c k ≤ 100) : ∀ i n, i ≤ w.slips.length → sumQ w c i n → 0 ≤ n ∧ n ≤ 6000 * i
  | 0, n, _, h => by simp only [sumQ] at h; omega
  | i + 1, n, hi, h => by
    have hs := (hok.sl i).thick
    have hci := hc i
    simp only [sumQ] at h
    split at h
    · have := sumQ_bnd hok hc i n (by omega) h
      omega
    · obtain ⟨t, ht, h⟩ := h
      have h1 : 0 ≤ c i * t := Int.mul_nonneg hci.1 (by omega)
      have h3 : c i * t ≤ 100 * 60 := Int.mul_le_mul hci.2 (by omega) (by omega) (by omega)
      have := sumQ_bnd hok hc i _ (by omega) h
      omega

def lenS (c : Int → Int) : Nat → Nat
  | 0 => 3
  | i + 1 => lenS c i + if c i = 0 then 1 else 3

structure SumI (w : Works) (c : Int → Int) (i : Nat) (H : Heap) (id : Nat) (L : List Int) : Prop where
  b0 : H[0]? = some (wrkB w)
  b1 : H[1]? = some (cntB c)
  bm : H[id]? = some (.obj (.map (keyM L)))
  len : H.length = lenS c i
  nl : H.all noLoop = true
  nd : L.Nodup
  mem : ∀ n, n ∈ L ↔ sumQ w c i n

theorem SumI.none {w : Works} {c : Int → Int} {i : Nat} {H : Heap} {id : Nat} {L : List Int} (I : SumI w c i H id L) (h0 : c i = 0) {X : Blk} (hX : noLoop X = true) : SumI w c (i + 1) (H ++ [X]) id L := by
  refine ⟨?_, ?_, ?_, ?_, ?_, I.nd, fun n => ?_⟩
  · rw [List.getElem?_append_left (lt_of_getElem? I.b0)]; exact I.b0
  · rw [List.getElem?_append_left (lt_of_getElem? I.b1)]; exact I.b1
  · rw [List.getElem?_append_left (lt_of_getElem? I.bm)]; exact I.bm
  · rw [List.length_append, I.len, lenS, if_pos h0]; rfl
  · simp [I.nl, hX]
  · rw [I.mem, sumQ, if_pos h0]

def slipB (s : Slip) : Blk := .cells [.d (.int .i64 s.thick.lo), .d (.int .i64 s.thick.hi), .d (.int .i64 s.ounces.lo), .d (.int .i64 s.ounces.hi), .d (.int .i64 s.pence)]

theorem nodup_lt : ∀ (l : List Nat) (n : Nat), l.Nodup → (∀ x ∈ l, x < n) → l.length ≤ n
  | [], n, _, _ => Nat.zero_le _
  | x :: r, 0, _, h => by have := h x List.mem_cons_self; omega
  | x :: r, n + 1, hd, h => by
    have h1 : ((x :: r).erase n).length ≤ n := nodup_lt _ n (hd.erase _) fun y hy => by
      have hm := (hd.mem_erase_iff).1 hy
      have := h y hm.2
      have := hm.1
      omega
    have := List.length_erase (a := n) (l := x :: r)
    split at this <;> omega

theorem ap0 (H : Heap) (A : Blk) (Y : Heap) : (H ++ A :: Y)[H.length]? = some A := by
  rw [List.getElem?_append_right (Nat.le_refl _), Nat.sub_self]; rfl
theorem ap1 (H : Heap) (A B : Blk) (Y : Heap) : (H ++ A :: B :: Y)[H.length + 1]? = some B := by
  rw [List.getElem?_append_right (by omega), show H.length + 1 - H.length = 1 by omega]; rfl
theorem ap2 (H : Heap) (A B C : Blk) (Y : Heap) : (H ++ A :: B :: C :: Y)[H.length + 2]? = some C := by
  rw [List.getElem?_append_right (by omega), show H.length + 2 - H.length = 2 by omega]; rfl
theorem as0 (H : Heap) (A A' : Blk) (Y : Heap) : (H ++ A :: Y).set H.length A' = H ++ A' :: Y := by
  rw [List.set_append_right _ _ (Nat.le_refl _), Nat.sub_self]; rfl
theorem as1 (H : Heap) (A B B' : Blk) (Y : Heap) : (H ++ A :: B :: Y).set (H.length + 1) B' = H ++ A :: B' :: Y := by
  rw [List.set_append_right _ _ (by omega), show H.length + 1 - H.length = 1 by omega]; rfl
theorem as2 (H : Heap) (A B C C' : Blk) (Y : Heap) : (H ++ A :: B :: C :: Y).set (H.length + 2) C' = H ++ A :: B :: C' :: Y := by
  rw [List.set_append_right _ _ (by omega), show H.length + 2 - H.length = 2 by omega]; rfl

theorem SumI.some {w : Works} {c : Int → Int} {i : Nat} {H : Heap} {id : Nat} {L L' : List Int} (I : SumI w c i H id L) (h0 : c i ≠ 0) {X Y : Blk} (hX : noLoop X = true) (hY : noLoop Y = true) (hn : L'.Nodup)
    (hm : ∀ n, n ∈ L' ↔ ∃ t, ((w.sl i).thick.lo ≤ t ∧ t ≤ (w.sl i).thick.hi) ∧ n - c i * t ∈ L) : SumI w c (i + 1) (H ++ [X, .obj (.map (keyM L')), Y]) (H.length + 1) L' := by
  refine ⟨?_, ?_, ?_, ?_, ?_, hn, fun n => ?_⟩
  · rw [List.getElem?_append_left (lt_of_getElem? I.b0)]; exact I.b0
  · rw [List.getElem?_append_left (lt_of_getElem? I.b1)]; exact I.b1
  · exact ap1 _ _ _ _
  · rw [List.length_append, I.len, lenS, if_neg h0]; rfl
  · have hM : noLoop (.obj (.map (keyM L'))) = true := rfl
    simp [I.nl, hX, hY, hM]
  · rw [hm, sumQ, if_neg h0]
    simp only [I.mem]

theorem c73 {w : Works} (hok : w.Ok) {c : Int → Int} (hc : ∀ k, 0 ≤ c k ∧ c k ≤ 100) :
    ACalls prog 73 [.d w.d, .d (cntD c)] [] (fun v H' => ∃ id L, v = .obj id ∧ SumI w c w.slips.length H' id L) := by
  obtain ⟨l1, l2⟩ := hok.len
  refine ACalls.bodyK tt_ok (fn := f73) (rs := [.tmp 4]) (lenS c w.slips.length) rfl rfl rfl rfl rfl rfl ?_
  refine AWP.run (fun _ => false) tt_ok (fun _ h => nomatch h) (Nat.zero_le _) rfl ?_
  simp only [go_sem, Works.d, cntD, List.length_map]
  have hp0 : mput (.int .i64 0) (.bool true) [] = some (keyM [0]) := rfl
  simp only [go_sem, hp0, List.length_map]
  refine ALoop.by (S := Nat × Heap × Nat × List Int) (fun s => [(17, .d (.int .i64 s.1)), (16, .d (.int .i64 w.slips.length)), (15, .d (.sl (w.slips.map Slip.d))), (5, .obj s.2.2.1), (3, .ptr 1 0)]) (fun s => s.2.1) (fun s => w.slips.length - s.1) (fun s => s.1 ≤ w.slips.length ∧ SumI w c s.1 s.2.1 s.2.2.1 s.2.2.2)
    (0, [wrkB w, cntB c, .obj (.map (keyM [0]))], 2, [0]) (Nat.zero_le _) (fun _ h => nomatch h) ⟨Nat.zero_le _, rfl, rfl, rfl, rfl, rfl, by simp, fun n => by simp [sumQ]⟩ ?_ ?_
  · exact ForgetTo.same' (Nat.zero_le _) (by simp [EWe, Env.look]) (by simp [wrkB, cntB])
  rintro ⟨i, H, id, L⟩ ⟨hi, I⟩ hn
  simp only at hi I
  have b0 := I.b0
  have b1 := I.b1
  have bm := I.bm
  have hid := lt_of_getElem? bm
  simp only [wrkB] at b0
  simp only [cntB] at b1
  refine AWP.run (fun _ => false) tt_ok (fun _ h => nomatch h) (Nat.zero_le _) rfl ?_
  simp only [go_sem]
  refine Br_split (fun hd => ?_) (fun hd => ?_) <;> simp only [go_sem, hd]
  · have hlt : i < w.slips.length := by simpa using hd
    have hix := Works.at hlt
    have hs := (hok.sl i).thick
    have hci := hc i
    have hhv := cnt_head c (i := i) (by omega)
    have hc0 : (0 : Int) ≤ (i : Int) := by omega
    have hc1 : (i : Int) < 4 := by omega
    have hnx : IntKind.i64.wrap ((i : Int) + 1) = (i : Int) + 1 := w64 (by omega) (by omega)
    have g1 : ∀ Y : Heap, (H ++ Y)[1]? = some (.cells [.d (.int .i64 (c 0)), .d (.int .i64 (c 1)), .d (.int .i64 (c 2)), .d (.int .i64 (c 3))]) := fun Y => by rw [List.getElem?_append_left (lt_of_getElem? b1)]; exact b1
    have gm : ∀ Y : Heap, (H ++ Y)[id]? = some (.obj (.map (keyM L))) := fun Y => by rw [List.getElem?_append_left hid]; exact bm
    simp only [go_sem, hix, Slip.d, g1, hc0, hc1, Int.toNat_natCast, Nat.mul_one, Nat.zero_add, hhv]
    simp only [go_sem, ap0, as0, ap1, as1, g1, gm, hc0, hc1, Int.toNat_natCast, Nat.mul_one, Nat.zero_add, hhv]
    refine Br_split (fun he => ?_) (fun he => ?_) <;> simp only [go_sem, he]
    · have he0 : c i = 0 := by simpa using he
      refine ⟨(i + 1, H ++ [slipB (w.sl i)], id, L), ⟨hlt, I.none he0 rfl⟩, by simp only; omega, ?_⟩
      exact ForgetTo.same' (Nat.zero_le _) (by simp [EWe, Env.look, hnx]) (by simp [slipB])
    · have he0 : c i ≠ 0 := by simpa using he
      simp only [go_sem, ap0, as0, ap1, as1, g1, gm, hc0, hc1, Int.toNat_natCast, Nat.mul_one, Nat.zero_add, hhv, List.append_assoc, List.cons_append, List.nil_append, List.length_append, List.length_cons, List.length_nil, Nat.add_assoc, Nat.reduceAdd, ap2, as2]
      have hw0 : 0 ≤ (w.sl i).thick.hi - (w.sl i).thick.lo := by omega
      refine ALoop.by (S := List Nat × List Int) (fun s => [(28, .obj (H.length + 2)), (17, .d (.int .i64 i)), (16, .d (.int .i64 w.slips.length)), (15, .d (.sl (w.slips.map Slip.d))), (8, .obj (H.length + 1)), (7, .ptr H.length 0), (6, .d (.int .i64 i)), (3, .ptr 1 0)])
        (fun s => H ++ [slipB (w.sl i), .obj (.map (keyM s.2)), .obj (.iter id L.length s.1)])
        (fun s => L.length - s.1.length) (fun s => (s.1.Nodup ∧ ∀ j ∈ s.1, j < L.length) ∧ s.2.Nodup ∧ ∀ m, m ∈ s.2 ↔ ∃ (j : Nat) (n t : Int), j ∈ s.1 ∧ L[j]? = some n ∧ ((w.sl i).thick.lo ≤ t ∧ t ≤ (w.sl i).thick.hi) ∧ m = n + c i * t) ([], []) (Nat.zero_le _) (fun _ h => nomatch h) ⟨⟨List.nodup_nil, by simp⟩, List.nodup_nil, by simp⟩ ?_ ?_
      · exact ForgetTo.same' (Nat.zero_le _) (by simp [EWe, Env.look]) (by simp [keyM, slipB])
      rintro ⟨seen, L'⟩ ⟨⟨hsn, hsl⟩, hLn, hLm⟩ hn2
      simp only at hsn hsl hLn hLm
      refine AWP.run (fun _ => false) tt_ok (fun _ h => nomatch h) (Nat.zero_le _) rfl ?_
      simp only [go_sem]
      refine anext_of (ap2 _ _ _ _ _) (gm _) (by simp [keyM]) (fun hend => ?_) (fun j p hj hjs => ?_)
      · simp only [go_sem]
        refine ⟨(i + 1, H ++ [slipB (w.sl i), .obj (.map (keyM L')), .obj (.iter id L.length seen)], H.length + 1, L'), ⟨hlt, I.some he0 rfl rfl hLn fun m => ?_⟩, by simp only; omega, ?_⟩
        · rw [hLm]
          constructor
          · rintro ⟨j, n, t, h1, h2, h3, rfl⟩
            exact ⟨t, h3, by rw [Int.add_sub_cancel]; exact List.mem_of_getElem? h2⟩
          · rintro ⟨t, h3, h4⟩
            obtain ⟨j, hj⟩ := List.getElem?_of_mem h4
            exact ⟨j, m - c i * t, t, hend j (List.getElem?_eq_some_iff.1 hj).1, hj, h3, by omega⟩
        · exact ForgetTo.same' (Nat.zero_le _) (by simp [EWe, Env.look, hnx]) rfl
      · obtain ⟨n, hn1, rfl⟩ : ∃ n, L[j]? = some n ∧ p = (D.int .i64 n, D.bool true) := by
          rw [keyM, List.getElem?_map] at hj
          obtain ⟨n, h1, h2⟩ := Option.map_eq_some_iff.1 hj
          exact ⟨n, h1, h2.symm⟩
        have hjl := (List.getElem?_eq_some_iff.1 hn1).1
        have hnb := sumQ_bnd hok hc i n (by omega) ((I.mem n).1 (List.mem_of_getElem? hn1))
        have hen := aentry_of (H := H ++ [slipB (w.sl i), .obj (.map (keyM L')), .obj (.iter id L.length (seen ++ [j]))]) (id := H.length + 2) (ap2 _ _ _ _ _) (gm _) (by simp [keyM]) (by simp) hj
        simp only [slipB] at hen
        simp only [go_sem, as2, hen, ap0, slipB]
        have hwid : (w.sl i).thick.lo + (((w.sl i).thick.hi + 1 - (w.sl i).thick.lo).toNat : Int) = (w.sl i).thick.hi + 1 := by omega
        refine ALoop.by (S := Nat × List Int) (fun s => [(28, .obj (H.length + 2)), (17, .d (.int .i64 i)), (16, .d (.int .i64 w.slips.length)), (15, .d (.sl (w.slips.map Slip.d))), (10, .d (.int .i64 ((w.sl i).thick.lo + s.1))), (9, .d (.int .i64 n)), (8, .obj (H.length + 1)), (7, .ptr H.length 0), (6, .d (.int .i64 i)), (3, .ptr 1 0)])
          (fun s => H ++ [slipB (w.sl i), .obj (.map (keyM s.2)), .obj (.iter id L.length (seen ++ [j]))]) (fun s => ((w.sl i).thick.hi + 1 - (w.sl i).thick.lo).toNat - s.1)
          (fun s => s.1 ≤ ((w.sl i).thick.hi + 1 - (w.sl i).thick.lo).toNat ∧ s.2.Nodup ∧ ∀ m, m ∈ s.2 ↔ m ∈ L' ∨ ∃ q : Nat, q < s.1 ∧ m = n + c i * ((w.sl i).thick.lo + q)) (0, L') (Nat.zero_le _) (fun _ h => nomatch h) ⟨Nat.zero_le _, hLn, by simp⟩ ?_ ?_
        · exact ForgetTo.same' (Nat.zero_le _) (by simp [EWe, Env.look]) (by simp [slipB])
        rintro ⟨k, L2⟩ ⟨hk, hL2n, hL2m⟩ hn3
        simp only at hk hL2n hL2m
        refine AWP.run (fun _ => false) tt_ok (fun _ h => nomatch h) (Nat.zero_le _) rfl ?_
        simp only [go_sem, ap0, slipB]
        refine Br_split (fun hf => ?_) (fun hf => ?_) <;> simp only [go_sem, hf]
        · have hkl : k < ((w.sl i).thick.hi + 1 - (w.sl i).thick.lo).toNat := by simp only [decide_eq_true_eq] at hf; omega
          have m1 : 0 ≤ c i * ((w.sl i).thick.lo + k) := Int.mul_nonneg hci.1 (by omega)
          have m2 : c i * ((w.sl i).thick.lo + k) ≤ 100 * 60 := Int.mul_le_mul hci.2 (by omega) (by omega) (by omega)
          have w1 : IntKind.i64.wrap (c i * ((w.sl i).thick.lo + k)) = c i * ((w.sl i).thick.lo + k) := w64 (by omega) (by omega)
          have w2 : IntKind.i64.wrap (n + c i * ((w.sl i).thick.lo + k)) = n + c i * ((w.sl i).thick.lo + k) := w64 (by omega) (by omega)
          have w3 : IntKind.i64.wrap ((w.sl i).thick.lo + k + 1) = (w.sl i).thick.lo + ((k + 1 : Nat) : Int) := by rw [w64 (by omega) (by omega)]; omega
          have hput := key_put (n + c i * ((w.sl i).thick.lo + k)) L2
          simp only [go_sem, g1, hc0, hc1, Int.toNat_natCast, Nat.mul_one, Nat.zero_add, hhv, w1, w2, ap1, as1, hput]
          refine ⟨(k + 1, insI L2 (n + c i * ((w.sl i).thick.lo + k))), ⟨hkl, insI_nodup hL2n _, fun m => ?_⟩, by simp only; omega, ?_⟩
          · rw [insI_mem, hL2m]
            constructor
            · rintro ((h | ⟨q, h1, h2⟩) | h)
              · exact .inl h
              · exact .inr ⟨q, by omega, h2⟩
              · exact .inr ⟨k, by omega, h⟩
            · rintro (h | ⟨q, h1, h2⟩)
              · exact .inl (.inl h)
              · by_cases e : q = k
                · subst e; exact .inr h2
                · exact .inl (.inr ⟨q, by omega, h2⟩)
          · exact ForgetTo.same' (Nat.zero_le _) (by simp [EWe, Env.look, w3]) (by simp [slipB])
        · have hke : k = ((w.sl i).thick.hi + 1 - (w.sl i).thick.lo).toNat := by simp only [decide_eq_false_iff_not] at hf; omega
          have hsl' : (seen ++ [j]).length ≤ L.length := by
            have hnd : (seen ++ [j]).Nodup := by
              rw [List.nodup_append]
              exact ⟨hsn, by simp, fun a ha b hb => by
                simp only [List.mem_singleton] at hb
                subst hb
                rintro rfl
                exact hjs ha⟩
            have := nodup_lt (seen ++ [j]) L.length hnd fun x hx => by
              rcases List.mem_append.1 hx with hx | hx
              · exact hsl x hx
              · simp only [List.mem_singleton] at hx; omega
            exact this
          refine ⟨(seen ++ [j], L2), ⟨⟨?_, fun x hx => ?_⟩, hL2n, fun m => ?_⟩, by simp only [List.length_append, List.length_singleton] at hsl' ⊢; omega, ?_⟩
          · rw [List.nodup_append]
            exact ⟨hsn, by simp, fun a ha b hb => by
              simp only [List.mem_singleton] at hb
              subst hb
              rintro rfl
              exact hjs ha⟩
          · rcases List.mem_append.1 hx with hx | hx
            · exact hsl x hx
            · simp only [List.mem_singleton] at hx; omega
          · rw [hL2m, hLm]
            constructor
            · rintro (⟨j', n', t, h1, h2, h3, h4⟩ | ⟨q, h1, h2⟩)
              · exact ⟨j', n', t, List.mem_append_left _ h1, h2, h3, h4⟩
              · exact ⟨j, n, (w.sl i).thick.lo + q, by simp, hn1, by omega, h2⟩
            · rintro ⟨j', n', t, h1, h2, h3, h4⟩
              rcases List.mem_append.1 h1 with h1 | h1
              · exact .inl ⟨j', n', t, h1, h2, h3, h4⟩
              · simp only [List.mem_singleton] at h1
                subst h1
                rw [hn1, Option.some.injEq] at h2
                subst h2
                refine .inr ⟨(t - (w.sl i).thick.lo).toNat, by omega, ?_⟩
                rw [show (w.sl i).thick.lo + (((t - (w.sl i).thick.lo).toNat : Nat) : Int) = t by omega]
                exact h4
          · exact ForgetTo.same' (Nat.zero_le _) (by simp [EWe, Env.look]) (by simp [slipB])
  · have hie : i = w.slips.length := by simp only [decide_eq_false_iff_not] at hd; omega
    subst hie
    have hl := I.len
    simp only [← hl, hid, go_sem, if_true, Nat.le_refl, List.take_length]
    exact ⟨id, L, rfl, I⟩
end Go.Aw
end

section
set_option maxRecDepth 100000
namespace Go.Aw
open Go Go.Proofs.Try

theorem sorted3 {l : List Int} (hn : l.Nodup) (h : ∀ x ∈ l, x = 1 ∨ x = 2 ∨ x = 3) : l.length ≤ 3 ∧ isortI ltI l (l.length - 1) = [1, 2, 3].filter fun h => l.contains h := by
  match l, hn, h with
  | [], _, _ => exact ⟨by simp, by decide⟩
  | [a], _, h =>
    refine ⟨by simp, ?_⟩
    rcases h a (by simp) with rfl | rfl | rfl <;> decide
  | [a, b], hn, h =>
    refine ⟨by simp, ?_⟩
    rcases h a (by simp) with rfl | rfl | rfl <;> rcases h b (by simp) with rfl | rfl | rfl <;> first | (simp at hn; done) | decide
  | [a, b, c], hn, h =>
    refine ⟨by simp, ?_⟩
    rcases h a (by simp) with rfl | rfl | rfl <;> rcases h b (by simp) with rfl | rfl | rfl <;> rcases h c (by simp) with rfl | rfl | rfl <;> first | (simp at hn; done) | decide
  | a :: b :: c :: d :: r, hn, h =>
    exfalso
    simp only [List.nodup_cons, List.mem_cons, not_or] at hn
    obtain ⟨⟨h1, h2, h3, _⟩, ⟨h4, h5, _⟩, ⟨h6, _⟩, _⟩ := hn
    rcases h a (by simp) with rfl | rfl | rfl <;> rcases h b (by simp) with rfl | rfl | rfl <;> rcases h c (by simp) with rfl | rfl | rfl <;> rcases h d (by simp) with rfl | rfl | rfl <;> omega

/-- How thick coats can be, listed. -/
def sumsL (w : Works) (c : Int → Int) : Nat → List Int
  | 0 => [0]
  | i + 1 => if c i = 0 then sumsL w c i else (sumsL w c i).flatMap fun n => (List.range ((w.sl i).thick.hi + 1 - (w.sl i).thick.lo).toNat).map fun q : Nat => n + c i * ((w.sl i).thick.lo + q)

theorem sumsL_iff {w : Works} (hok : w.Ok) (c : Int → Int) : ∀ i n, n ∈ sumsL w c i ↔ sumQ w c i n
  | 0, n => by simp [sumsL, sumQ]
  | i + 1, n => by
    have hs := (hok.sl i).thick
    simp only [sumsL, sumQ]
    split
    · exact sumsL_iff hok c i n
    · simp only [List.mem_flatMap, List.mem_map, List.mem_range, sumsL_iff hok c i]
      constructor
      · rintro ⟨m, hm, q, hq, rfl⟩
        exact ⟨(w.sl i).thick.lo + q, by omega, by rw [Int.add_sub_cancel]; exact hm⟩
      · rintro ⟨t, ht, hm⟩
        exact ⟨_, hm, (t - (w.sl i).thick.lo).toNat, by omega, by rw [show (w.sl i).thick.lo + (((t - (w.sl i).thick.lo).toNat : Nat) : Int) = t by omega]; omega⟩

/-- The ways in which a sign comes out. -/
def waysP (w : Works) (c : Int → Int) : List Int := [1, 2, 3].filter fun h => (sumsL w c w.slips.length).any fun n => decide (howF w n = h)

theorem howF_in (w : Works) (n : Int) : howF w n = 1 ∨ howF w n = 2 ∨ howF w n = 3 := by
  unfold howF
  split
  · simp
  · split <;> simp

def thickP (w : Works) (l : List Int) : Sp × List Int × Int :=
  if checkP w = 0 then (if coatsP w l = true then (spanP w (cntF l), waysP w (cntF l), 0) else (⟨0, 0⟩, [], 4)) else (⟨0, 0⟩, [], checkP w)

theorem c107 {H : Heap} {Q : V → Heap → Prop} (l : List Int) (v : Int) (hl : l.length ≤ 4294967296) (h : Q (.d (.int .i64 (idx (fun x => decide (v = x)) l 0))) H) : ACalls prog 107 [.d (.sl (l.map (.int .i64))), .d (.int .i64 v)] H Q := by
  refine ACalls.run (fun _ => false) tt_ok (fn := f107) (rs := [.tmp 4]) rfl rfl rfl rfl rfl rfl rfl ?_
  simp only [go_sem]
  refine ALoop.by (S := Nat) (fun i => [(8, .d (.int .i64 i)), (7, .d (.int .i64 l.length)), (0, .d (.sl (l.map (.int .i64)))), (1, .d (.int .i64 v))]) (fun _ => H) (fun i => l.length - i) (fun i => i ≤ l.length ∧ idx (fun x => decide (v = x)) (l.drop i) i = idx (fun x => decide (v = x)) l 0) 0 (Nat.le_refl _) (fun _ h => nomatch h) ⟨Nat.zero_le _, rfl⟩ ?_ ?_
  · simp [ForgetTo, EW, VW, BBq, Env.look, pubV]
  · rintro i ⟨hi, hx⟩ hn
    refine AWP.run (fun _ => false) tt_ok (fun _ h => nomatch h) hn rfl ?_
    simp only [go_sem]
    refine Br_split (fun h1 => ?_) (fun h1 => ?_) <;> simp only [go_sem, h1]
    · have hlt : i < l.length := by simpa using h1
      rw [idx_drop _ hlt] at hx
      have hix : idx? (l.map (D.int .i64)) (i : Int) = some (.int .i64 l[i]) := by simp [idx?, List.getElem?_eq_getElem hlt]
      simp only [go_sem, hix]
      refine Br_split (fun h2 => ?_) (fun h2 => ?_) <;> simp only [go_sem, h2]
      · rw [h2] at hx
        simp only [if_true] at hx
        rw [hx]; assumption
      · rw [h2] at hx
        simp only [Bool.false_eq_true, if_false] at hx
        exact ⟨i + 1, ⟨hlt, hx⟩, by omega, by simp [ForgetTo, EW, VW, BBq, Env.look, pubV, w64 (n := (i : Int) + 1) (by omega) (by omega)]⟩
    · have hlt : ¬ i < l.length := by simpa using h1
      have : l.drop i = [] := List.drop_eq_nil_of_le (by omega)
      rw [this] at hx
      simp only [idx] at hx
      rw [hx]; assumption

theorem c75 (l : List Int) (v : Int) (hl : l.length ≤ 4294967296) : PC prog 75 [.d (.sl (l.map (.int .i64))), .d (.int .i64 v)] (.d (.bool (decide (v ∈ l)))) := by
  refine PC.run (fun _ => false) tt_ok (fn := f75) (rs := [.tmp 4]) rfl rfl rfl rfl rfl rfl rfl ?_
  simp only [go_sem]
  refine ACallV.of rfl (c107 l v hl ?_)
  simp only [go_sem]
  rw [idx_ge _ l 0 (by omega)]
  congr 2
  rw [Bool.eq_iff_iff, List.any_eq_true, decide_eq_true_eq]
  simp
end Go.Aw
end

section
set_option maxRecDepth 100000
namespace Go.Aw
open Go Go.Proofs.Try

theorem cons5 (a b c d e : Blk) (B : Heap) (k : Nat) : (a :: b :: c :: d :: e :: B)[5 + k]? = B[k]? := by
  rw [Nat.add_comm]; rfl

theorem sums_ne {w : Works} (hok : w.Ok) (c : Int → Int) : ∀ i, ∃ n, n ∈ sumsL w c i
  | 0 => ⟨0, by simp [sumsL]⟩
  | i + 1 => by
    obtain ⟨n, hn⟩ := sums_ne hok c i
    have hs := (hok.sl i).thick
    simp only [sumsL]
    split
    · exact ⟨n, hn⟩
    · exact ⟨_, List.mem_flatMap.2 ⟨n, hn, List.mem_map.2 ⟨0, List.mem_range.2 (by omega), rfl⟩⟩⟩

theorem c17 (w : Works) (l : List Int) (hw : w.slips.length ≤ 4294967296) (hl : l.length ≤ 4294967296) :
    PC prog 17 [.d w.d, .d (.sl (l.map (.int .i64)))] (.tup [.d (thickP w l).1.d, .d (.sl ((thickP w l).2.1.map (.int .i64))), .d (.int .i64 (thickP w l).2.2)]) := by
  refine PC.run (fun k => k == 5) tt_ok (fn := f17) (rs := [.cell 4 31, .tmp 5, .tmp 6]) rfl rfl rfl rfl rfl rfl rfl ?_
  simp only [go_sem, Works.d]
  refine (c70 w hw).call rfl rfl rfl ?_
  simp only [go_sem, Works.d]
  refine Br_split (fun h1 => ?_) (fun h1 => ?_) <;> simp only [go_sem, h1]
  · have hc : ¬ checkP w = 0 := by simpa using h1
    simp only [go_sem, thickP, if_neg hc]
    rfl
  have hc : checkP w = 0 := by simpa using h1
  have hok := checkP_iff.1 hc
  refine (c71 w hw l hl).call rfl rfl rfl ?_
  simp only [go_sem]
  refine Br_split (fun h2 => ?_) (fun h2 => ?_) <;> simp only [go_sem, h2]
  · have h2' : ¬ coatsP w l = true := by simpa using h2
    simp only [thickP, if_pos hc, if_neg h2']
    rfl
  have h2' : coatsP w l = true := by simpa using h2
  obtain ⟨hl8, hlm⟩ := coatsP_iff.1 h2'
  obtain ⟨l1, l2⟩ := hok.len
  have hcb : ∀ k, 0 ≤ cntF l k ∧ cntF l k ≤ 100 := fun k => by have := cntF_le l k; omega
  have hP : thickP w l = (spanP w (cntF l), waysP w (cntF l), 0) := by rw [thickP, if_pos hc, if_pos h2']
  refine (c72 l (by omega) (fun n hn => by have := hlm n hn; omega)).call rfl rfl rfl ?_
  rw [hP]
  have hQ := sumsL_iff hok (cntF l) w.slips.length
  have h77 := c77 hok hcb
  have hways : waysP w (cntF l) = [1, 2, 3].filter fun h => (sumsL w (cntF l) w.slips.length).any fun n => decide (howF w n = h) := rfl
  rw [hways]
  have hSne := sums_ne hok (cntF l) w.slips.length
  generalize hS : sumsL w (cntF l) w.slips.length = S at hQ hSne ⊢
  have h73 := c73 hok hcb
  generalize cntF l = c at *
  simp only [go_sem, cntD]
  refine ACallV.of rfl (ACalls.mono (ACalls.shE (fun v B h => by obtain ⟨_, _, _, I⟩ := h; exact I.nl) rfl h73) ?_)
  rintro v H' ⟨r, B, ⟨id, L, rfl, I⟩, rfl, rfl⟩
  have hm : (B.map (shB 5))[id]? = some (.obj (.map (keyM L))) := by rw [List.getElem?_map, I.bm]; rfl
  have hnd := I.nd
  have hmem := I.mem
  clear h73
  generalize B.map (shB 5) = B' at hm
  simp only [go_sem, cons5, hm]
  refine ALoop.by (S := List Nat × List Int) (fun s => [(32, .obj (5 + B'.length)), (8, .ptr 4 0), (7, .ptr 3 0), (5, .ref 2 s.2.length 0 s.2.length), (4, .ptr 1 0)])
    (fun s => wrkB w :: .cells [.d (.int .i64 0), .d (.int .i64 0)] :: .arr 1 s.2.isEmpty (s.2.map (.int .i64)) :: wrkB w :: cntB c :: (B' ++ [.obj (.iter (5 + id) L.length s.1)])) (fun s => L.length - s.1.length)
    (fun s => (s.1.Nodup ∧ ∀ j ∈ s.1, j < L.length) ∧ s.2.Nodup ∧ ∀ h, h ∈ s.2 ↔ ∃ (j : Nat) (n : Int), j ∈ s.1 ∧ L[j]? = some n ∧ howF w n = h) ([], []) (Nat.zero_le _) (fun _ h => nomatch h) ⟨⟨List.nodup_nil, by simp⟩, List.nodup_nil, by simp⟩ ?_ ?_
  · exact ForgetTo.same' (Nat.zero_le _) (by simp [EWe, Env.look]; omega) (by simp [wrkB, cntB, keyM])
  rintro ⟨seen, hs⟩ ⟨⟨hsn, hsl⟩, hhn, hhm⟩ hn2
  simp only at hsn hsl hhn hhm
  have hid := lt_of_getElem? hm
  have h13 : ∀ x ∈ hs, x = 1 ∨ x = 2 ∨ x = 3 := fun x hx => by
    obtain ⟨j, n, _, _, rfl⟩ := (hhm x).1 hx
    exact howF_in w n
  obtain ⟨h3, hsort⟩ := sorted3 hhn h13
  have gi : ∀ (a b c d e : Blk) (I : Blk), (a :: b :: c :: d :: e :: (B' ++ [I]))[5 + B'.length]? = some I := fun a b c d e I => by rw [cons5]; exact ap0 _ _ _
  have gmm : ∀ (a b c d e : Blk) (I : Blk), (a :: b :: c :: d :: e :: (B' ++ [I]))[5 + id]? = some (.obj (.map (keyM L))) := fun a b c d e I => by rw [cons5, List.getElem?_append_left hid]; exact hm
  have gs : ∀ (a b c d e : Blk) (I J : Blk), (a :: b :: c :: d :: e :: (B' ++ [I])).set (5 + B'.length) J = a :: b :: c :: d :: e :: (B' ++ [J]) := fun a b c d e I J => by
    rw [Nat.add_comm]
    simp
  refine AWP.run (fun k => k == 5) tt_ok (fun _ h => nomatch h) (Nat.zero_le _) rfl ?_
  simp only [go_sem]
  refine anext_of (gi _ _ _ _ _ _) (gmm _ _ _ _ _ _) (by simp [keyM]) (fun hend => ?_) (fun j p hj hjs => ?_)
  · have hset : ∀ h, h ∈ hs ↔ ∃ n ∈ S, howF w n = h := fun h => by
      rw [hhm]
      constructor
      · rintro ⟨j, n, h1, h2, h4⟩
        exact ⟨n, (hQ n).2 ((hmem n).1 (List.mem_of_getElem? h2)), h4⟩
      · rintro ⟨n, h1, h4⟩
        obtain ⟨j, hj⟩ := List.getElem?_of_mem ((hmem n).2 ((hQ n).1 h1))
        exact ⟨j, n, hend j (List.getElem?_eq_some_iff.1 hj).1, hj, h4⟩
    have hwy : ([1, 2, 3] : List Int).filter (fun h => hs.contains h) = [1, 2, 3].filter fun h => S.any fun n => decide (howF w n = h) := by
      refine List.filter_congr fun h _ => ?_
      rw [Bool.eq_iff_iff, List.contains_iff_mem, hset, List.any_eq_true]
      simp
    rw [hwy] at hsort
    have hne : hs.isEmpty = false := by
      cases hs with
      | cons a r => rfl
      | nil =>
        obtain ⟨n, hn⟩ := hSne
        have := (hset (howF w n)).2 ⟨n, hn, rfl⟩
        cases this
    have hwl : (isortI ltI hs (hs.length - 1)).length = hs.length := isortI_len _ _ _
    rw [hsort] at hwl
    simp only [go_sem, hne]
    refine ACallV.of rfl (c76 (id := 2) (l := hs) (H := wrkB w :: Blk.cells [.d (.int .i64 0), .d (.int .i64 0)] :: Blk.arr 1 false [] :: wrkB w :: cntB c :: (B' ++ [Blk.obj (AObj.iter (5 + id) L.length seen)])) (by simp) rfl h3 ?_)
    rw [hsort]
    simp only [go_sem, wrkB, cntB, rowB]
    refine h77.call rfl rfl rfl ?_
    have htk : ∀ M : List Int, M.length = hs.length → (M.map (D.int .i64)).take hs.length = M.map (.int .i64) := fun M hM => List.take_of_length_le (by simp [hM])
    simp only [go_sem, Sp.d, List.length_map, hwl, htk _ hwl]
  · obtain ⟨n, hn1, rfl⟩ : ∃ n, L[j]? = some n ∧ p = (D.int .i64 n, D.bool true) := by
      rw [keyM, List.getElem?_map] at hj
      obtain ⟨n, h1, h2⟩ := Option.map_eq_some_iff.1 hj
      exact ⟨n, h1, h2.symm⟩
    have hjl := (List.getElem?_eq_some_iff.1 hn1).1
    have hen := fun (a b c d e : Blk) => aentry_of (H := a :: b :: c :: d :: e :: (B' ++ [.obj (.iter (5 + id) L.length (seen ++ [j]))])) (id := 5 + B'.length) (gi _ _ _ _ _ _) (gmm _ _ _ _ _ _) (by simp [keyM]) (by simp) hj
    have hndj : (seen ++ [j]).Nodup := by
      rw [List.nodup_append]
      exact ⟨hsn, by simp, fun a ha b hb => by
        simp only [List.mem_singleton] at hb
        subst hb
        rintro rfl
        exact hjs ha⟩
    have hltj : ∀ x ∈ seen ++ [j], x < L.length := fun x hx => by
      rcases List.mem_append.1 hx with hx | hx
      · exact hsl x hx
      · simp only [List.mem_singleton] at hx; omega
    have hlen := nodup_lt (seen ++ [j]) L.length hndj hltj
    simp only [List.length_append, List.length_singleton] at hlen
    simp only [go_sem, gs, hen, wrkB]
    refine (c74 w n).call rfl rfl rfl ?_
    simp only [go_sem]
    have htk : (hs.map (D.int .i64)).take hs.length = hs.map (.int .i64) := List.take_of_length_le (by simp)
    refine (c75 hs (howF w n) (by omega)).callL rfl (by simp [pubVs, pubV, dz, htk]) rfl ?_
    by_cases hmh : howF w n ∈ hs
    · have dm : decide (howF w n ∈ hs) = true := by simpa using hmh
      simp only [go_sem, dm]
      refine ⟨(seen ++ [j], hs), ⟨⟨hndj, hltj⟩, hhn, fun h => ?_⟩, by simp only [List.length_append, List.length_singleton]; omega, ?_⟩
      · rw [hhm]
        constructor
        · rintro ⟨j', n', h1, h2, h4⟩
          exact ⟨j', n', List.mem_append_left _ h1, h2, h4⟩
        · rintro ⟨j', n', h1, h2, rfl⟩
          rcases List.mem_append.1 h1 with h1 | h1
          · exact ⟨j', n', h1, h2, rfl⟩
          · simp only [List.mem_singleton] at h1
            subst h1
            rw [hn1, Option.some.injEq] at h2
            subst h2
            exact (hhm _).1 hmh
      · exact ForgetTo.same' (Nat.zero_le _) (by simp [EWe, Env.look]) (by simp [wrkB])
    · have dm : decide (howF w n ∈ hs) = false := by simpa using hmh
      have hp1 : hs.length + 1 ≤ 4294967296 := by omega
      simp only [go_sem, dm, List.length_map, hp1]
      refine ⟨(seen ++ [j], hs ++ [howF w n]), ⟨⟨hndj, hltj⟩, ?_, fun h => ?_⟩, by simp only [List.length_append, List.length_singleton]; omega, ?_⟩
      · rw [List.nodup_append]
        exact ⟨hhn, by simp, fun a ha b hb => by
          simp only [List.mem_singleton] at hb
          subst hb
          rintro rfl
          exact hmh ha⟩
      · rw [List.mem_append, hhm, List.mem_singleton]
        constructor
        · rintro (⟨j', n', h1, h2, h4⟩ | h1)
          · exact ⟨j', n', List.mem_append_left _ h1, h2, h4⟩
          · exact ⟨j, n, by simp, hn1, h1.symm⟩
        · rintro ⟨j', n', h1, h2, h4⟩
          rcases List.mem_append.1 h1 with h1 | h1
          · exact .inl ⟨j', n', h1, h2, h4⟩
          · simp only [List.mem_singleton] at h1
            subst h1
            rw [hn1, Option.some.injEq] at h2
            subst h2
            exact .inr h4.symm
      · exact ForgetTo.same' (Nat.zero_le _) (by simp [EWe, Env.look]) (by simp [wrkB])
end Go.Aw
end

section
set_option maxRecDepth 100000
namespace Go.Aw
open Go Go.Proofs.Try

/-- So many coats more of a slip. -/
def addC (c : Int → Int) (s : Int) (n : Nat) (k : Int) : Int := if k = s then c k + n else c k

def manyS (w : Works) (c : Int → Int) (s : Int) : Nat → Option (Nat × Nat)
  | 0 => none
  | n + 1 => if goodP w (addC c s n) = true then (match manyS w c s n with | none => some (n, n) | some (a, _) => some (a, n)) else manyS w c s n

def manyO : Option (Nat × Nat) → Sp × Int
  | none => (⟨0, 0⟩, 9)
  | some (a, b) => (⟨a, b⟩, 0)

def coatsM (w : Works) (under : List Int) (slip : Int) : Sp × Int :=
  if checkP w = 0 then (if coatsP w under = true then (if within 0 ((w.slips.length : Int) - 1) [slip] = true then manyO (manyS w (cntF under) slip (9 - under.length)) else (⟨0, 0⟩, 7)) else (⟨0, 0⟩, 4)) else (⟨0, 0⟩, checkP w)

theorem addC_zero (c : Int → Int) (s : Int) : addC c s 0 = c := by
  funext k; simp [addC]

theorem c58 (w : Works) (l : List Int) (slip : Int) (hw : w.slips.length ≤ 4294967296) (hl : l.length ≤ 4294967296) :
    PC prog 58 [.d w.d, .d (.sl (l.map (.int .i64))), .d (.int .i64 slip)] (.tup [.d (coatsM w l slip).1.d, .d (.int .i64 (coatsM w l slip).2)]) := by
  refine PC.run (fun _ => false) tt_ok (fn := f58) (rs := [.cell 6 31, .tmp 7]) rfl rfl rfl rfl rfl rfl rfl ?_
  simp only [go_sem, Works.d]
  refine (c70 w hw).call rfl rfl rfl ?_
  simp only [go_sem, Works.d]
  refine Br_split (fun h1 => ?_) (fun h1 => ?_) <;> simp only [go_sem, h1]
  · have hc : ¬ checkP w = 0 := by simpa using h1
    simp only [go_sem, coatsM, if_neg hc]
    rfl
  have hc : checkP w = 0 := by simpa using h1
  have hok := checkP_iff.1 hc
  refine (c71 w hw l hl).call rfl rfl rfl ?_
  simp only [go_sem]
  refine Br_split (fun h2 => ?_) (fun h2 => ?_) <;> simp only [go_sem, h2]
  · have h2' : ¬ coatsP w l = true := by simpa using h2
    simp only [coatsM, if_pos hc, if_neg h2']
    rfl
  have h2' : coatsP w l = true := by simpa using h2
  obtain ⟨hl8, hlm⟩ := coatsP_iff.1 h2'
  obtain ⟨l1, l2⟩ := hok.len
  have wl : IntKind.i64.wrap ((w.slips.length : Int) - 1) = (w.slips.length : Int) - 1 := w64 (by omega) (by omega)
  simp only [go_sem, wl, List.length_map]
  refine (c68 0 ((w.slips.length : Int) - 1) [slip] (by simp)).call rfl rfl rfl ?_
  simp only [go_sem]
  refine Br_split (fun h3 => ?_) (fun h3 => ?_) <;> simp only [go_sem, h3]
  · have h3' : ¬ within 0 ((w.slips.length : Int) - 1) [slip] = true := by simpa using h3
    simp only [coatsM, if_pos hc, if_pos h2', if_neg h3']
    rfl
  have h3' : within 0 ((w.slips.length : Int) - 1) [slip] = true := by simpa using h3
  have hsl := within_one.1 h3'
  have hcb : ∀ k, 0 ≤ cntF l k ∧ cntF l k ≤ l.length := cntF_le l
  have hP : coatsM w l slip = manyO (manyS w (cntF l) slip (9 - l.length)) := by rw [coatsM, if_pos hc, if_pos h2', if_pos h3']
  rw [hP]
  refine (c72 l (by omega) (fun n hn => by have := hlm n hn; omega)).call rfl rfl rfl ?_
  generalize cntF l = c at *
  have w1 : IntKind.i64.wrap (8 - (l.length : Int)) = 8 - (l.length : Int) := w64 (by omega) (by omega)
  have w2 : IntKind.i64.wrap (8 - (l.length : Int) + 1) = ((9 - l.length : Nat) : Int) := by rw [w64 (by omega) (by omega)]; omega
  simp only [go_sem, cntD, List.length_map, w1, w2]
  refine ALoop.by (S := Nat) (fun n => [(44, .d (.int .i64 n)), (43, .d (.int .i64 (9 - l.length : Nat))), (9, .ptr 3 0), (8, .ptr 2 0), (7, .d (.int .i64 (manyO (manyS w c slip n)).2)), (6, .ptr 1 0), (2, .d (.int .i64 slip))])
    (fun n => [wrkB w, .cells [.d (.int .i64 (manyO (manyS w c slip n)).1.lo), .d (.int .i64 (manyO (manyS w c slip n)).1.hi)], wrkB w, cntB (addC c slip n)]) (fun n => 9 - l.length - n) (fun n => n ≤ 9 - l.length) 0 (Nat.zero_le _) (fun _ h => nomatch h) (Nat.zero_le _) ?_ ?_
  · exact ForgetTo.same' (Nat.zero_le _) (by simp [EWe, Env.look, manyS, manyO]) (by simp [wrkB, cntB, manyS, manyO, addC_zero])
  rintro n hn hn0
  refine AWP.run (fun _ => false) tt_ok (fun _ h => nomatch h) (Nat.zero_le _) rfl ?_
  simp only [go_sem, wrkB, cntB]
  refine Br_split (fun hd => ?_) (fun hd => ?_) <;> simp only [go_sem, hd]
  · have hlt : n < 9 - l.length := by simp only [decide_eq_true_eq] at hd; omega
    have hab : ∀ k, 0 ≤ addC c slip n k ∧ addC c slip n k ≤ 100 := fun k => by
      have := hcb k
      unfold addC
      split <;> omega
    have hst : ∀ k, addC c slip (n + 1) k = if k = slip then addC c slip n k + 1 else addC c slip n k := fun k => by
      unfold addC
      split <;> omega
    have hms : manyS w c slip (n + 1) = if goodP w (addC c slip n) = true then (match manyS w c slip n with | none => some (n, n) | some (a, _) => some (a, n)) else manyS w c slip n := rfl
    have hnx : IntKind.i64.wrap ((n : Int) + 1) = (n : Int) + 1 := w64 (by omega) (by omega)
    have hwb : ∀ k, IntKind.i64.wrap (addC c slip n k + 1) = addC c slip n k + 1 := fun k => by have := hab k; exact w64 (by omega) (by omega)
    refine (c103 hok hab).call rfl rfl rfl ?_
    generalize addC c slip n = a at *
    generalize manyS w c slip n = m at *
    have hs4 : slip = 0 ∨ slip = 1 ∨ slip = 2 ∨ slip = 3 := by omega
    cases hg : goodP w a with
    | false =>
      rw [hg, if_neg (by simp)] at hms
      rcases hs4 with rfl | rfl | rfl | rfl
      all_goals
        simp only [go_sem, hwb]
        refine ⟨n + 1, hlt, by omega, ?_⟩
        exact ForgetTo.same' (Nat.zero_le _) (by simp [EWe, Env.look, hnx, hms]) (by simp [wrkB, cntB, hst, hms])
    | true =>
      rw [hg, if_pos rfl] at hms
      rcases m with _ | ⟨x, y⟩
      all_goals
        simp only [manyO] at hms ⊢
        rcases hs4 with rfl | rfl | rfl | rfl
        all_goals
          simp only [go_sem, hwb]
          refine ⟨n + 1, hlt, by omega, ?_⟩
          exact ForgetTo.same' (Nat.zero_le _) (by simp [EWe, Env.look, hnx, hms]) (by simp [wrkB, cntB, hst, hms])
  · have hne : n = 9 - l.length := by simp only [decide_eq_false_iff_not] at hd; omega
    subst hne
    simp only [go_sem, Sp.d]
end Go.Aw
end

section
set_option maxRecDepth 100000
namespace Go.Aw
open Go Go.Proofs.Try

/-- A list; nil if it is empty. -/
def lvI (l : List Int) : V :=
  match l with
  | [] => .slx (some true) []
  | x :: r => .d (.sl ((x :: r).map (.int .i64)))

theorem dz_lvI (l : List Int) : dz (lvI l) = .d (.sl (l.map (.int .i64))) := by cases l <;> rfl
theorem VB_lvI (n : Nat) (l : List Int) : VB n (lvI l) = true := by cases l <;> rfl
theorem lvI_one (l : List Int) : (lvI l).one = true := by cases l <;> rfl
theorem lvI_cells (l : List Int) : vcells (lvI l) = some [lvI l] := by cases l <;> rfl
theorem pubV_lvI (n : Nat) (H : Heap) (l : List Int) : pubV n H (lvI l) = some (lvI l) := by cases l <;> rfl
theorem lvI_append (l : List Int) (x : Int) : lvI (l ++ [x]) = .d (.sl (l.map (.int .i64) ++ [.int .i64 x])) := by
  cases l <;> simp [lvI]
theorem alen_lvI (es : Nat) (z : D) (H : Heap) (l : List Int) : alen (.sl es z) H (lvI l) = some l.length := by
  cases l <;> simp [lvI, alen_slx, alen_d]
theorem aidx_lvI (es : Nat) (z : D) (H : Heap) (l : List Int) (k : IntKind) (n : Int) : aidxAddr (.sl es z) H (lvI l) (.d (.int k n)) = aelt es (idx? (l.map (.int .i64)) n) := by
  cases l <;> simp [lvI, aidx_slx, aidx_d]
theorem aslice_lvI (es : Nat) (z : D) (E : Env) (H : Heap) (l : List Int) (lo : Option Operand) (hi m : Operand) : aslice (.sl es z) E H (lvI l) lo (some hi) (some m) = aslX es (l.map (.int .i64)) (bound? E lo 0) (bound? E (some hi) l.length) (bound? E (some m) 0) := by
  cases l with
  | nil =>
    rw [lvI]
    cases h1 : bound? E lo 0 <;> cases h2 : bound? E (some hi) ([] : List Int).length <;> cases h3 : bound? E (some m) 0 <;> simp_all [aslice, content, aslX]
  | cons x r =>
    rw [lvI, aslice_dx]
    simp

theorem sized_ints (l : List Int) : sized 1 (l.map (D.int .i64)) = true := by simp [sized, dcells]

theorem c114 (l : List Int) (hl : l.length ≤ 1000) : PC prog 114 [lvI l] (lvI l) := by
  refine PC.run (fun _ => false) tt_ok (fn := f114) (rs := [.tmp 2]) rfl rfl rfl rfl rfl rfl rfl ?_
  cases l with
  | nil => simp only [go_sem, lvI, bin_eql_nil]
  | cons x r =>
    have h0 := sized_ints (x :: r)
    have h1 : r.length + 1 ≤ 4294967296 := by simp at hl; omega
    simp only [List.map_cons] at h0
    have hs0 : sized 1 [] = true := rfl
    simp only [go_sem, lvI, bin_eql_cons, h0, h1, hs0]

def cmpI (x y : Int) : Int := if x < y then -1 else if x > y then 1 else 0

theorem c145 (n : Int) : PC prog 145 [.d (.int .i64 n)] (.d (.bool false)) := by
  refine PC.run (fun _ => false) tt_ok (fn := f145) (rs := [.tmp 2]) rfl rfl rfl rfl rfl rfl rfl ?_
  simp only [go_sem]

theorem c138 (x y : Int) : PC prog 138 [.d (.int .i64 x), .d (.int .i64 y)] (.d (.int .i64 (cmpI x y))) := by
  refine PC.run (fun _ => false) tt_ok (fn := f138) (rs := [.tmp 4]) rfl rfl rfl rfl rfl rfl rfl ?_
  simp only [go_sem]
  refine (c145 x).call rfl rfl rfl ?_
  simp only [go_sem]
  refine (c145 y).call rfl rfl rfl ?_
  simp only [go_sem]
  refine Br_split (fun h1 => ?_) (fun h1 => ?_) <;> simp only [go_sem, h1]
  · simp only [decide_eq_true_eq] at h1
    rw [cmpI, if_pos h1]
  · simp only [decide_eq_false_iff_not] at h1
    refine Br_split (fun h2 => ?_) (fun h2 => ?_) <;> simp only [go_sem, h2]
    · simp only [decide_eq_true_eq] at h2
      rw [cmpI, if_neg h1, if_pos (by omega)]
    · simp only [decide_eq_false_iff_not] at h2
      rw [cmpI, if_neg h1, if_neg (by omega)]

/-- Lists compared. -/
def cmpL : List Int → List Int → Int
  | [], [] => 0
  | [], _ :: _ => -1
  | _ :: _, [] => 1
  | x :: a, y :: b => if cmpI x y ≠ 0 then cmpI x y else cmpL a b

theorem c122 (a b : List Int) (ha : a.length ≤ 1000) (hb : b.length ≤ 1000) : PC prog 122 [.d (.sl (a.map (.int .i64))), .d (.sl (b.map (.int .i64)))] (.d (.int .i64 (cmpL a b))) := by
  refine PC.run (fun _ => false) tt_ok (fn := f122) (rs := [.tmp 4]) rfl rfl rfl rfl rfl rfl rfl ?_
  simp only [go_sem, List.length_map]
  refine ALoop.by (S := Nat) (fun i => [(11, .d (.int .i64 i)), (10, .d (.int .i64 a.length)), (9, .d (.sl (a.map (.int .i64)))), (1, .d (.sl (b.map (.int .i64)))), (0, .d (.sl (a.map (.int .i64))))]) (fun _ => []) (fun i => a.length - i) (fun i => i ≤ a.length ∧ i ≤ b.length ∧ cmpL a b = cmpL (a.drop i) (b.drop i)) 0 (Nat.zero_le _) (fun _ h => nomatch h) ⟨Nat.zero_le _, Nat.zero_le _, rfl⟩ ?_ ?_
  · exact ForgetTo.same' (Nat.zero_le _) (by simp [EWe, Env.look]) rfl
  rintro i ⟨hi, hib, hx⟩ hn
  rw [hx]
  refine AWP.run (fun _ => false) tt_ok (fun _ h => nomatch h) (Nat.zero_le _) rfl ?_
  simp only [go_sem]
  refine Br_split (fun hd => ?_) (fun hd => ?_) <;> simp only [go_sem, hd]
  · have hlt : i < a.length := by simpa using hd
    have hix : idx? (a.map (D.int .i64)) (i : Int) = some (.int .i64 a[i]) := by simp [idx?, List.getElem?_eq_getElem hlt]
    have hda := List.drop_eq_getElem_cons hlt
    have hnx : IntKind.i64.wrap ((i : Int) + 1) = (i : Int) + 1 := w64 (by omega) (by omega)
    simp only [go_sem, hix, List.length_map]
    by_cases hb2 : i < b.length
    · have d1 : decide ((b.length : Int) ≤ i) = false := by simp only [decide_eq_false_iff_not]; omega
      have hiy : idx? (b.map (D.int .i64)) (i : Int) = some (.int .i64 b[i]) := by simp [idx?, List.getElem?_eq_getElem hb2]
      have hdb := List.drop_eq_getElem_cons hb2
      have hst : cmpL (a.drop i) (b.drop i) = if cmpI a[i] b[i] ≠ 0 then cmpI a[i] b[i] else cmpL (a.drop (i + 1)) (b.drop (i + 1)) := by rw [hda, hdb]; rfl
      generalize a[i] = x at *
      generalize b[i] = y at *
      simp only [go_sem, d1, hiy]
      refine (c138 x y).call rfl rfl rfl ?_
      simp only [go_sem]
      refine Br_split (fun he => ?_) (fun he => ?_) <;> simp only [go_sem, he]
      · have he' : cmpI x y ≠ 0 := by simpa using he
        rw [hst, if_pos he']
      · have he' : ¬ cmpI x y ≠ 0 := by simpa using he
        rw [if_neg he'] at hst
        refine ⟨i + 1, ⟨hlt, hb2, hst⟩, by omega, ?_⟩
        exact ForgetTo.same' (Nat.zero_le _) (by simp [EWe, Env.look, hnx]) rfl
    · have d1 : decide ((b.length : Int) ≤ i) = true := by simp only [decide_eq_true_eq]; omega
      have hdb : b.drop i = [] := List.drop_of_length_le (by omega)
      rw [hda, hdb]
      simp only [go_sem, d1, cmpL]
  · have hie : i = a.length := by simp only [decide_eq_false_iff_not] at hd; omega
    have hda : a.drop i = [] := List.drop_of_length_le (by omega)
    rw [hda]
    simp only [go_sem, List.length_map]
    refine Br_split (fun he => ?_) (fun he => ?_) <;> simp only [go_sem, he]
    · have hb2 : i < b.length := by simp only [decide_eq_true_eq] at he; omega
      rw [List.drop_eq_getElem_cons hb2]
      rfl
    · have hdb : b.drop i = [] := List.drop_of_length_le (by simp only [decide_eq_false_iff_not] at he; omega)
      rw [hdb]
      rfl
end Go.Aw
end

section
set_option maxRecDepth 100000
namespace Go.Aw
open Go Go.Proofs.Try

structure PlanS where
  best : List Int
  pence : Int
  found : Bool

def planB (w : Works) (most : Nat) (s : PlanS) : Blk :=
  .cells [.d (.sl (w.slips.map Slip.d)), .d (.int .i64 w.hides), .d (.int .i64 w.drops), .d (.int .i64 0), .d (.int .i64 0), .d (.int .i64 0), .d (.int .i64 0), .d (.int .i64 most), lvI s.best, .d (.int .i64 s.pence), .d (.bool s.found)]

/-- Are coats better than the best ones? -/
def betterP (w : Works) (l : List Int) (c : Int → Int) (pence : Int) (s : PlanS) : Bool :=
  goodP w c && (!s.found || (decide (pence < s.pence) || (decide (pence = s.pence) && (decide (l.length < s.best.length) || (decide (l.length = s.best.length) && decide (cmpL l s.best < 0))))))

def updP (w : Works) (l : List Int) (c : Int → Int) (pence : Int) (s : PlanS) : PlanS := if betterP w l c pence s = true then ⟨l, pence, true⟩ else s

def firstP (l : List Int) : Int := l.getLastD 0

def planF (w : Works) : Nat → List Int → (Int → Int) → Int → PlanS → PlanS
  | 0, l, c, pence, s => updP w l c pence s
  | n + 1, l, c, pence, s => (List.range w.slips.length).foldl (fun s q => if firstP l ≤ (q : Nat) then planF w n (l ++ [(q : Int)]) (addC c q 1) (pence + (w.sl q).pence) s else s) (updP w l c pence s)

def stepP (w : Works) (n : Nat) (l : List Int) (c : Int → Int) (pence : Int) (s : PlanS) (q : Nat) : PlanS := if firstP l ≤ (q : Nat) then planF w n (l ++ [(q : Int)]) (addC c q 1) (pence + (w.sl q).pence) s else s

theorem stepP_skip (w : Works) (n : Nat) (l : List Int) (c : Int → Int) (pence : Int) (s : PlanS) : ∀ k : Nat, (k : Int) ≤ firstP l → (List.range k).foldl (stepP w n l c pence) s = s
  | 0, _ => rfl
  | k + 1, h => by
    rw [List.range_succ, List.foldl_append, stepP_skip w n l c pence s k (by omega)]
    simp only [List.foldl_cons, List.foldl_nil, stepP]
    rw [if_neg (by omega)]

theorem BB_planB (n : Nat) (w : Works) (most : Nat) (s : PlanS) : BB n (planB w most s) := by
  simp [planB, BB, VBs, VB, VB_lvI]

theorem ACalls.bodyN {P : Program} {T : Nat → Ty} (hT : TOK P T) {f : FuncId} {fn : Func} {c : Code} {N : Nat} {rs : List ResultVar} {vs : List V} {H : Heap} {Q : V → Heap → Prop} (hf : P.funcs[f]? = some fn) (hb : fn.body = some c) (hN : fn.ntmps = N) (hrs : fn.results.toList = rs)
    (hnm : (fn.name == "runtime.NumGoroutine") = false) (hlen : decide (vs.length ≤ N) = true) (h : AWP P N H.length none c (envOf 0 vs) H (FnPost T rs H.length Q)) : ACalls P f vs H Q := by
  subst hN; subst hrs
  exact ACalls.of_body hT hf hb hnm (by simpa using hlen) h

theorem clone_lvI {l : List Int} (hl : l.length ≤ 1000) {H : Heap} {Q : V → Heap → Prop} (hq : Q (lvI l) H) : ACallV prog (.fn (.func 114) [] []) [lvI l] H Q :=
  ACallV.of rfl ((c114 l hl).use (by simp [VBs, VB_lvI]) (VB_lvI _ _) hq)

/-- The planner, to the point where it looks whether there can be more coats. -/
theorem c102_head {w : Works} (hok : w.Ok) {most : Nat} {l : List Int} (hl : l.length ≤ 8) {c : Int → Int} {pence : Int} {s : PlanS} {H : Heap} {id : Nat} (hid : id < H.length) (hbb : BBs H.length H) (hc : ∀ k, 0 ≤ c k ∧ c k ≤ 100) (hs8 : s.best.length ≤ 8) {Q : V → Heap → Prop}
    (hrest : AWP prog f102.ntmps H.length none (restC 2 (bodyOf f102)) [(6, .ptr H.length 0), (3, .d (.int .i64 pence)), (1, lvI l), (0, .ptr id 0)] (H.set id (planB w most (updP w l c pence s)) ++ [cntB c]) (FnPost Tt [] H.length Q)) :
    ACalls prog 102 [.ptr id 0, lvI l, .d (cntD c), .d (.int .i64 pence)] (H.set id (planB w most s)) Q := by
  refine ACalls.bodyN tt_ok (fn := f102) (c := bodyOf f102) (rs := []) rfl rfl rfl rfl rfl rfl ?_
  rw [hx_len]
  refine AWP.stepN 2 _ _ (fun _ => false) tt_ok (fun _ h => nomatch h) (by simp) rfl ?_ hrest
  simp only [go_sem, cntD]
  refine ADrw.treeG (fun _ => false) tt_ok (by kernel_rfl) (fun k => if k = 3 ∨ k = 4 ∨ k = 10 ∨ k = 17 ∨ k = 25 ∨ k = 33 ∨ k = 42 ∨ k = 50 then some .L else some .S) (.ones [0, 1, 2, 3, 4, 5, 6, 7, 8, 9, 10, 11, 12, 13, 14, 15, 16, 17, 18, 19, 20, 21, 22, 23, 24, 25, 26, 27, 28, 29, 30, 31, 32, 33, 34, 35, 36, 37, 38, 39, 40, 41, 42, 43, 44, 45, 46, 47, 48, 49, 50, 51, 52, 53, 54, 55, 56, 57] .done) (by simp) (fun _ h => nomatch h) rfl rfl (by kernel_rfl) ?_
  simp only [go_sem, hx_get' hid, hx_len, planB, hx_new0]
  refine (c103 hok hc).callS rfl rfl rfl rfl rfl rfl ?_
  have hvc := lvI_cells l
  have hlo := lvI_one l
  have hds := dz_lvI
  cases hg : goodP w c with
  | false =>
    have hu : updP w l c pence s = s := by rw [updP, betterP, hg]; rfl
    simp only [go_sem]
    exact ForgetTo.same' (by simp) (by simp [EWe, Env.look]) (by rw [hu]; simp [planB, cntB])
  | true =>
    cases hf : s.found with
    | false =>
      have hu : updP w l c pence s = ⟨l, pence, true⟩ := by rw [updP, betterP, hg, hf]; rfl
      simp only [go_sem, hx_get' hid, hx_len]
      refine clone_lvI (by omega) ?_
      simp only [go_sem, hx_get' hid, hx_len, hx_set' hid, hvc, hlo]
      exact ForgetTo.same' (by simp) (by simp [EWe, Env.look]) (by rw [hu]; simp [planB, cntB])
    | true =>
      by_cases p1 : pence < s.pence
      · have d1 : decide (pence < s.pence) = true := by simpa using p1
        have hu : updP w l c pence s = ⟨l, pence, true⟩ := by rw [updP, betterP, hg, hf, d1]; rfl
        simp only [go_sem, hx_get' hid, hx_len, d1]
        refine clone_lvI (by omega) ?_
        simp only [go_sem, hx_get' hid, hx_len, hx_set' hid, hvc, hlo]
        exact ForgetTo.same' (by simp) (by simp [EWe, Env.look]) (by rw [hu]; simp [planB, cntB])
      · have d1 : decide (pence < s.pence) = false := by simpa using p1
        by_cases p2 : pence = s.pence
        · have d2 : decide (pence = s.pence) = true := by simpa using p2
          by_cases p3 : l.length < s.best.length
          · have d3 : decide ((l.length : Int) < s.best.length) = true := by simp only [decide_eq_true_eq]; omega
            have d3' : decide (l.length < s.best.length) = true := by simpa using p3
            have hu : updP w l c pence s = ⟨l, pence, true⟩ := by rw [updP, betterP, hg, hf, d1, d2, d3']; rfl
            simp only [go_sem, hx_get' hid, hx_len, d1, d2, alen_lvI, d3]
            refine clone_lvI (by omega) ?_
            simp only [go_sem, hx_get' hid, hx_len, hx_set' hid, hvc, hlo]
            exact ForgetTo.same' (by simp) (by simp [EWe, Env.look]) (by rw [hu]; simp [planB, cntB])
          · have d3 : decide ((l.length : Int) < s.best.length) = false := by simp only [decide_eq_false_iff_not]; omega
            have d3' : decide (l.length < s.best.length) = false := by simpa using p3
            by_cases p4 : l.length = s.best.length
            · have d4 : decide ((l.length : Int) = s.best.length) = true := by simp only [decide_eq_true_eq]; omega
              have d4' : decide (l.length = s.best.length) = true := by simpa using p4
              simp only [go_sem, hx_get' hid, hx_len, d1, d2, alen_lvI, d3, d4]
              refine (c122 l s.best (by omega) (by omega)).callS (by simp [dz_lvI]) rfl rfl rfl (by simp [VBs, VB_lvI]) rfl ?_
              simp only [go_sem]
              cases d5 : decide (cmpL l s.best < 0) with
              | true =>
                have hu : updP w l c pence s = ⟨l, pence, true⟩ := by rw [updP, betterP, hg, hf, d1, d2, d3', d4', d5]; rfl
                simp only [go_sem]
                refine clone_lvI (by omega) ?_
                simp only [go_sem, hx_get' hid, hx_len, hx_set' hid, hvc, hlo]
                exact ForgetTo.same' (by simp) (by simp [EWe, Env.look]) (by rw [hu]; simp [planB, cntB])
              | false =>
                have hu : updP w l c pence s = s := by rw [updP, betterP, hg, hf, d1, d2, d3', d4', d5]; rfl
                simp only [go_sem]
                exact ForgetTo.same' (by simp) (by simp [EWe, Env.look]) (by rw [hu]; simp [planB, cntB, hf])
            · have d4 : decide ((l.length : Int) = s.best.length) = false := by simp only [decide_eq_false_iff_not]; omega
              have d4' : decide (l.length = s.best.length) = false := by simpa using p4
              have hu : updP w l c pence s = s := by rw [updP, betterP, hg, hf, d1, d2, d3', d4']; rfl
              simp only [go_sem, hx_get' hid, hx_len, d1, d2, alen_lvI, d3, d4]
              exact ForgetTo.same' (by simp) (by simp [EWe, Env.look]) (by rw [hu]; simp [planB, cntB, hf])
        · have d2 : decide (pence = s.pence) = false := by simpa using p2
          have hu : updP w l c pence s = s := by rw [updP, betterP, hg, hf, d1, d2]; rfl
          simp only [go_sem, hx_get' hid, hx_len, d1, d2]
          exact ForgetTo.same' (by simp) (by simp [EWe, Env.look]) (by rw [hu]; simp [planB, cntB, hf])
end Go.Aw
end

section
set_option maxRecDepth 100000
namespace Go.Aw
open Go Go.Proofs.Try

theorem updP_len {w : Works} {l : List Int} {c : Int → Int} {pence : Int} {s : PlanS} (hl : l.length ≤ 8) (hs : s.best.length ≤ 8) : (updP w l c pence s).best.length ≤ 8 := by
  unfold updP
  split
  · exact hl
  · exact hs

theorem planF_len (w : Works) : ∀ (n : Nat) (l : List Int) (c : Int → Int) (pence : Int) (s : PlanS), l.length + n ≤ 8 → s.best.length ≤ 8 → (planF w n l c pence s).best.length ≤ 8
  | 0, l, c, pence, s, hl, hs => updP_len (by omega) hs
  | n + 1, l, c, pence, s, hl, hs => by
    have key : ∀ (L : List Nat) (s : PlanS), s.best.length ≤ 8 → (L.foldl (stepP w n l c pence) s).best.length ≤ 8 := by
      intro L
      induction L with
      | nil => intro s hs; exact hs
      | cons q L ih =>
        intro s hs
        rw [List.foldl_cons]
        refine ih _ ?_
        unfold stepP
        split
        · exact planF_len w n _ _ _ _ (by simp; omega) hs
        · exact hs
    exact key _ _ (updP_len (by omega) hs)

theorem stepP_len (w : Works) {n : Nat} {l : List Int} {c : Int → Int} {pence : Int} (hl : l.length + n + 1 ≤ 8) : ∀ (L : List Nat) (s : PlanS), s.best.length ≤ 8 → (L.foldl (stepP w n l c pence) s).best.length ≤ 8
  | [], s, hs => hs
  | q :: L, s, hs => by
    rw [List.foldl_cons]
    refine stepP_len w hl L _ ?_
    unfold stepP
    split
    · exact planF_len w n _ _ _ _ (by simp; omega) hs
    · exact hs

theorem cnt_splice (c : Int → Int) {q : Nat} (h : q < 4) : List.take q [V.d (.int .i64 (c 0)), .d (.int .i64 (c 1)), .d (.int .i64 (c 2)), .d (.int .i64 (c 3))] ++ V.d (.int .i64 (c q + 1)) :: List.drop q [V.d (.int .i64 (c 1)), .d (.int .i64 (c 2)), .d (.int .i64 (c 3))] =
    [V.d (.int .i64 (addC c q 1 0)), .d (.int .i64 (addC c q 1 1)), .d (.int .i64 (addC c q 1 2)), .d (.int .i64 (addC c q 1 3))] := by
  have h4 : q = 0 ∨ q = 1 ∨ q = 2 ∨ q = 3 := by omega
  rcases h4 with rfl | rfl | rfl | rfl <;> simp [addC]

theorem c102 {w : Works} (hok : w.Ok) {most : Nat} (h8 : most ≤ 8) : ∀ (n : Nat) (l : List Int) (c : Int → Int) (pence : Int) (s : PlanS) (H : Heap) (id : Nat), id < H.length → BBs H.length H → l.length + n = most → (∀ x ∈ l, 0 ≤ x ∧ x < w.slips.length) → (∀ k, 0 ≤ c k ∧ c k + n ≤ 100) → (0 ≤ pence ∧ pence + 100 * n ≤ 10000) → s.best.length ≤ 8 →
    ∀ Q : V → Heap → Prop, Q (.tup []) (H.set id (planB w most (planF w n l c pence s))) → ACalls prog 102 [.ptr id 0, lvI l, .d (cntD c), .d (.int .i64 pence)] (H.set id (planB w most s)) Q := by
  obtain ⟨l1, l2⟩ := hok.len
  intro n
  induction n with
  | zero =>
    intro l c pence s H id hid hbb hln hlm hc hp hs8 Q hq
    refine c102_head hok (by omega) hid hbb (fun k => by have := hc k; omega) hs8 ?_
    simp only [planF] at hq
    generalize updP w l c pence s = s1 at hq ⊢
    refine AWP.runS (fun _ => false) tt_ok (fun _ h => nomatch h) (by simp) rfl ?_
    have d1 : decide ((l.length : Int) = most) = true := by simp only [decide_eq_true_eq]; omega
    simp only [go_sem, hx_get' hid, hx_len, planB, alen_lvI, d1]
    have htk : ∀ X Y : Blk, (H.set id X ++ [Y]).take H.length = H.set id X := fun X Y => by
      rw [List.take_append_of_le_length (by simp)]; exact List.take_of_length_le (by simp)
    rw [htk]
    exact ⟨.inr (BBs_set hbb (BB_planB H.length w most s1)), hq⟩
  | succ n ih =>
    intro l c pence s H id hid hbb hln hlm hc hp hs8 Q hq
    refine c102_head hok (by omega) hid hbb (fun k => by have := hc k; omega) hs8 ?_
    have hs1 := updP_len (w := w) (l := l) (c := c) (pence := pence) (s := s) (by omega) hs8
    have hF : planF w (n + 1) l c pence s = (List.range w.slips.length).foldl (stepP w n l c pence) (updP w l c pence s) := rfl
    rw [hF] at hq
    clear hF
    generalize updP w l c pence s = s1 at hq hs1 ⊢
    have d1 : decide ((l.length : Int) = most) = false := by simp only [decide_eq_false_iff_not]; omega
    refine AWP.stepN 3 [(8, .d (.int .i64 (firstP l))), (6, .ptr H.length 0), (3, .d (.int .i64 pence)), (1, lvI l), (0, .ptr id 0)] (H.set id (planB w most s1) ++ [cntB c]) (fun _ => false) tt_ok (fun _ h => nomatch h) (by simp) rfl ?_ ?_
    · simp only [go_sem, hx_get' hid, hx_len, planB, alen_lvI, d1]
      by_cases hl0 : l = []
      · subst hl0
        simp only [go_sem, List.length_nil]
        exact ForgetTo.same' (by simp) (by simp [EWe, Env.look, firstP]) (by simp [planB, cntB])
      · have hpos : 0 < l.length := List.length_pos_iff.2 hl0
        have d2 : decide ((0 : Int) < l.length) = true := by simp only [decide_eq_true_eq]; omega
        have hw1 : IntKind.i64.wrap ((l.length : Int) - 1) = ((l.length - 1 : Nat) : Int) := by rw [w64 (by omega) (by omega)]; omega
        have hix : idx? (l.map (D.int .i64)) ((l.length - 1 : Nat) : Int) = some (.int .i64 (firstP l)) := by
          simp [idx?, List.getElem?_eq_getElem (show l.length - 1 < l.length by omega), firstP, List.getLastD_eq_getLast?, List.getLast?_eq_getElem?]
        simp only [go_sem, d2, hw1, alen_lvI, aidx_lvI, hix]
        exact ForgetTo.same' (by simp) (by simp [EWe, Env.look]) (by simp [planB, cntB])
    have hf0 : 0 ≤ firstP l ∧ firstP l < w.slips.length := by
      unfold firstP
      rw [List.getLastD_eq_getLast?]
      cases hg : l.getLast? with
      | none => simp; omega
      | some x => exact hlm x (List.mem_of_getLast? hg)
    have htk : ∀ X Y : Blk, (H.set id X ++ [Y]).take H.length = H.set id X := fun X Y => by
      rw [List.take_append_of_le_length (by simp)]; exact List.take_of_length_le (by simp)
    refine AWP.runS (fun _ => false) tt_ok (fun _ h => nomatch h) (by simp) rfl ?_
    simp only [go_sem]
    refine ALoop.by (S := Nat) (fun q => [(9, .d (.int .i64 q)), (6, .ptr H.length 0), (3, .d (.int .i64 pence)), (1, lvI l), (0, .ptr id 0)])
      (fun q => H.set id (planB w most ((List.range q).foldl (stepP w n l c pence) s1)) ++ [cntB c]) (fun q => w.slips.length - q) (fun q => q ≤ w.slips.length ∧ firstP l ≤ q) (firstP l).toNat (by simp) (fun _ h => nomatch h) ⟨by omega, by omega⟩ ?_ ?_
    · rw [stepP_skip w n l c pence s1 (firstP l).toNat (by omega)]
      exact ForgetTo.same' (by simp) (by simp [EWe, Env.look]; omega) rfl
    rintro q ⟨hq1, hq2⟩ hn'
    have hst : (List.range (q + 1)).foldl (stepP w n l c pence) s1 = planF w n (l ++ [(q : Int)]) (addC c q 1) (pence + (w.sl q).pence) ((List.range q).foldl (stepP w n l c pence) s1) := by
      rw [List.range_succ, List.foldl_append]
      simp only [List.foldl_cons, List.foldl_nil, stepP]
      rw [if_pos hq2]
    have hs2 := stepP_len w (n := n) (l := l) (c := c) (pence := pence) (by omega) (List.range q) s1 hs1
    generalize hgs : (List.range q).foldl (stepP w n l c pence) s1 = s2 at hst hs2 ⊢
    refine AWP.run (fun _ => false) tt_ok (fun _ h => nomatch h) (by simp) rfl ?_
    simp only [go_sem, hx_get' hid, hx_len, planB, List.length_map]
    refine Br_split (fun hd => ?_) (fun hd => ?_) <;> simp only [go_sem, hd]
    · have hlt : q < w.slips.length := by simpa using hd
      have hat := Works.at hlt
      have hsl := (hok.sl q).pence
      have hcq := hc q
      have hc0 : (0 : Int) ≤ (q : Int) := by omega
      have hc1 : (q : Int) < 4 := by omega
      have hhv := cnt_head c (i := q) (by omega)
      have hsp := cnt_splice c (q := q) (by omega)
      have hq3 : q ≤ 3 := by omega
      have w1 : IntKind.i64.wrap (c q + 1) = c q + 1 := w64 (by omega) (by omega)
      have w2 : IntKind.i64.wrap (pence + (w.sl q).pence) = pence + (w.sl q).pence := w64 (by omega) (by omega)
      have hnx : IntKind.i64.wrap ((q : Int) + 1) = (q : Int) + 1 := w64 (by omega) (by omega)
      have hsz := sized_ints l
      have hcl : (0 : Int) ≤ (l.length : Int) := by omega
      have htl : (l.map (D.int .i64)).take l.length = l.map (.int .i64) := List.take_of_length_le (by simp)
      have hle1 : l.length + 1 ≤ 4294967296 := by omega
      simp only [go_sem, hx_get' hid, hx_len, hx_new0, hx_put0, hx_new1, hx_put1, List.append_assoc, List.length_append, cntB, hc0, hc1, Int.toNat_natCast, Nat.mul_one, Nat.zero_add, hhv, w1, hq3, hsp]
      refine ADrw.treeG (fun _ => false) tt_ok (by kernel_rfl) (fun k => if k = 23 then none else if k = 10 ∨ k = 17 then some .L else some .S) (.ones [0, 1, 2, 3, 4, 5, 6, 7, 8, 9, 10, 11, 12, 13, 14, 15, 16, 17, 18, 19, 20, 21, 22] (.only 23 .done)) (by simp) (fun _ h => nomatch h) rfl rfl (by kernel_rfl) ?_
      simp only [go_sem, hx_get' hid, hx_len, hx_new0, hx_put0, hx_new1, hx_put1, List.append_assoc, List.length_append, alen_lvI, aslice_lvI, hat, Slip.d, w2, hsz, hle1, hc0, hc1, hcl, htl, List.length_map, Nat.le_refl, List.drop_zero, Nat.zero_le, Int.toNat_natCast, Nat.mul_one, Nat.zero_add]
      have hYb : ∀ n : Nat, BBs n [cntB c, cntB (addC c q 1)] := fun n => by simp [BBs, BB, VBs, VB, cntB]
      have key := fun Q => ih (l ++ [(q : Int)]) (addC c q 1) (pence + (w.sl q).pence) s2 (H.set id (planB w most s2) ++ [cntB c, cntB (addC c q 1)]) id
        (by simp; omega) (BBs_append (BBs_set (BBs_le (by simp) hbb) (BB_planB _ _ _ _)) (hYb _)) (by simp; omega) (fun x hx => by
          rcases List.mem_append.1 hx with hx | hx
          · exact hlm x hx
          · simp only [List.mem_singleton] at hx; omega) (fun k => by
          have := hc k
          unfold addC
          split <;> omega) ⟨by omega, by omega⟩ hs2 Q
      simp only [hx_set' hid, lvI_append] at key
      refine ACallV.of rfl (key _ ?_)
      simp only [go_sem, hx_get' hid, hx_len]
      refine ⟨q + 1, ⟨hlt, by omega⟩, by omega, ?_⟩
      rw [show ∀ X : Blk, H.set id X ++ [cntB c, cntB (addC c q 1)] = (H.set id X ++ [cntB c]) ++ [cntB (addC c q 1)] from fun X => by simp]
      refine ForgetTo.drop (by simp) (by rw [hst]; rfl) (BBs_append (BBs_set (BBs_le (by simp) hbb) (BB_planB _ _ _ _)) (by simp [BBs, BB, VBs, VB, cntB])) ?_
      have hi1 : id < H.length + 1 := by omega
      simp [EWp, Env.look, pubV, pubV_lvI, hnx, hi1]
    · have hqe : q = w.slips.length := by simp only [decide_eq_false_iff_not] at hd; omega
      subst hqe
      rw [hgs] at hq
      rw [htk]
      exact ⟨.inr (BBs_set hbb (BB_planB H.length w most s2)), hq⟩

/-- The cheapest coats. -/
def planO (w : Works) (under : List Int) : PlanS := planF w (8 - under.length) [] (cntF under) 0 ⟨[], 0, false⟩

def planP (w : Works) (under : List Int) : List Int × Int × Int :=
  if checkP w = 0 then (if coatsP w under = true then (if (planO w under).found = true then ((planO w under).best, (planO w under).pence, 0) else ([], 0, 9)) else ([], 0, 4)) else ([], 0, checkP w)

theorem c55 (w : Works) (l : List Int) (hw : w.slips.length ≤ 4294967296) (hl : l.length ≤ 4294967296) :
    PC prog 55 [.d w.d, .d (.sl (l.map (.int .i64)))] (.tup [lvI (planP w l).1, .d (.int .i64 (planP w l).2.1), .d (.int .i64 (planP w l).2.2)]) := by
  refine PC.run (fun k => k == 27) tt_ok (fn := f55) (rs := [.tmp 4, .tmp 5, .tmp 6]) rfl rfl rfl rfl rfl rfl rfl ?_
  simp only [go_sem, Works.d]
  refine (c70 w hw).call rfl rfl rfl ?_
  simp only [go_sem, Works.d]
  refine Br_split (fun h1 => ?_) (fun h1 => ?_) <;> simp only [go_sem, h1]
  · have hc : ¬ checkP w = 0 := by simpa using h1
    simp only [go_sem, planP, if_neg hc]
    rfl
  have hc : checkP w = 0 := by simpa using h1
  have hok := checkP_iff.1 hc
  refine (c71 w hw l hl).call rfl rfl rfl ?_
  simp only [go_sem]
  refine Br_split (fun h2 => ?_) (fun h2 => ?_) <;> simp only [go_sem, h2]
  · have h2' : ¬ coatsP w l = true := by simpa using h2
    simp only [planP, if_pos hc, if_neg h2']
    rfl
  have h2' : coatsP w l = true := by simpa using h2
  obtain ⟨hl8, hlm⟩ := coatsP_iff.1 h2'
  obtain ⟨l1, l2⟩ := hok.len
  have hP : planP w l = if (planO w l).found = true then ((planO w l).best, (planO w l).pence, 0) else ([], 0, 9) := by rw [planP, if_pos hc, if_pos h2']
  rw [hP]
  have w1 : IntKind.i64.wrap (8 - (l.length : Int)) = ((8 - l.length : Nat) : Int) := by rw [w64 (by omega) (by omega)]; omega
  simp only [go_sem, List.length_map, w1]
  refine (c72 l (by omega) (fun n hn => by have := hlm n hn; omega)).call rfl rfl rfl ?_
  simp only [go_sem]
  have key := fun Q => c102 hok (most := 8 - l.length) (by omega) (8 - l.length) [] (cntF l) 0 ⟨[], 0, false⟩ [wrkB w, wrkB w, planB w (8 - l.length) ⟨[], 0, false⟩] 2 (by simp) ⟨by simp [BB, VBs, VB, wrkB], by simp [BB, VBs, VB, wrkB], BB_planB _ _ _ _, trivial⟩ (by simp) (by simp) (fun k => by have := cntF_le l k; omega) (by omega) (by simp) Q
  refine ACallV.of rfl (key _ ?_)
  have hO : planF w (8 - l.length) [] (cntF l) 0 ⟨[], 0, false⟩ = planO w l := rfl
  rw [hO]
  generalize planO w l = s
  simp only [go_sem, planB]
  refine Br_split (fun h3 => ?_) (fun h3 => ?_) <;> simp only [go_sem, h3]
  · have h3' : ¬ s.found = true := by simpa using h3
    simp only [if_neg h3']
    rfl
  · have h3' : s.found = true := by simpa using h3
    simp only [if_pos h3']
    refine ADrw.treeG (fun k => k == 27) tt_ok (by kernel_rfl) (fun k => if k = 3 ∨ k = 7 then some .L else some .S) (.ones [0, 1, 2, 3, 4, 5, 6, 7, 8, 9, 10] .done) (Nat.zero_le _) (fun _ h => nomatch h) rfl rfl (by kernel_rfl) ?_
    simp only [go_sem, pubV_lvI]
end Go.Aw
end

section
set_option maxRecDepth 100000
namespace Go.Aw
open Go Go.Proofs.Try

/-- A job. -/
structure Job where
  feet : Int
  coats : List Int
deriving DecidableEq

def Job.d (j : Job) : D := .agg [.int .i64 j.feet, .sl (j.coats.map (.int .i64))]

theorem enc_job : Enc 2 (Tt 44) Job.d := fun x => ⟨rfl, rfl⟩

def badJob (w : Works) (j : Job) : Bool := !within 1 200 [j.feet] || !coatsP w j.coats

theorem c110 {w : Works} (hw : w.slips.length ≤ 4294967296) {j : Job} (hj : j.coats.length ≤ 4294967296) {i : Nat} {H : Heap} {Q : V → Heap → Prop} (h0 : H[i]? = some (wrkB w)) (hbb : BBs H.length H) (h : Q (.d (.bool (badJob w j))) H) :
    ACalls prog 110 [.d j.d, .ptr i 0] H Q := by
  have hi := lt_of_getElem? h0
  simp only [wrkB] at h0
  have h0' : ∀ Y : Heap, (H ++ Y)[i]? = some (.cells [.d (.sl (w.slips.map Slip.d)), .d (.int .i64 w.hides), .d (.int .i64 w.drops)]) := fun Y => by rw [List.getElem?_append_left hi]; exact h0
  refine ACalls.run (fun _ => false) tt_ok (fn := f110) (rs := [.tmp 3]) rfl rfl rfl rfl rfl rfl rfl ?_
  simp only [go_sem, Job.d, ap0]
  refine (c68 1 200 [j.feet] (by simp)).call rfl rfl rfl ?_
  have ht : ∀ Y : Blk, (H ++ [Y]).take H.length = H := fun Y => by rw [List.take_append_of_le_length (Nat.le_refl _), List.take_length]
  cases h1 : within 1 200 [j.feet] with
  | false =>
    have hb : badJob w j = true := by rw [badJob, h1]; rfl
    simp only [go_sem]
    rw [hb] at h
    rw [ht]
    exact ⟨.inr hbb, h⟩
  | true =>
    have hb : badJob w j = !coatsP w j.coats := by rw [badJob, h1]; rfl
    simp only [go_sem, h0', ap0]
    refine (c71 w hw j.coats hj).call rfl rfl rfl ?_
    rw [hb] at h
    simp only [go_sem]
    rw [ht]
    exact ⟨.inr hbb, h⟩

/-- What a job takes of a slip. -/
def takeS (w : Works) (j : Job) (i : Nat) : Sp := ⟨cntF j.coats i * j.feet * (w.sl i).ounces.lo, cntF j.coats i * j.feet * (w.sl i).ounces.hi⟩

def takesD (w : Works) (j : Job) (n : Nat) : List D := (List.range n).map fun i => (takeS w j i).d

def allT (w : Works) (l : List Job) : List D := l.map fun j => .sl (takesD w j w.slips.length)

def jobsE (w : Works) (l : List Job) : Int := if checkP w = 0 then (if l.length > 6 then 5 else if l.any (badJob w) = true then 2 else 0) else checkP w

def jobsT (w : Works) (l : List Job) : List D := if jobsE w l = 0 then allT w l else []

theorem takesD_succ (w : Works) (j : Job) (n : Nat) : takesD w j (n + 1) = takesD w j n ++ [(takeS w j n).d] := by simp [takesD, List.range_succ]
theorem takesD_len (w : Works) (j : Job) (n : Nat) : (takesD w j n).length = n := by simp [takesD]

theorem badJob_iff {w : Works} {j : Job} : badJob w j = false ↔ (1 ≤ j.feet ∧ j.feet ≤ 200) ∧ coatsP w j.coats = true := by
  rw [badJob, Bool.or_eq_false_iff, Bool.not_eq_false', Bool.not_eq_false', within_one]

theorem c83 (w : Works) (l : List Job) (hw : w.slips.length ≤ 4294967296) (hl : l.length ≤ 4294967296) (hj : ∀ j ∈ l, j.coats.length ≤ 4294967296) :
    PC prog 83 [.d w.d, .d (.sl (l.map Job.d))] (.tup [.d w.d, .d (.sl (jobsT w l)), .d (.int .i64 (jobsE w l))]) := by
  refine PC.run (fun k => k == 5 || k == 11) tt_ok (fn := f83) (rs := [.cell 4 133, .tmp 5, .tmp 6]) rfl rfl rfl rfl rfl rfl rfl ?_
  simp only [go_sem, Works.d]
  refine (c70 w hw).call rfl rfl rfl ?_
  simp only [go_sem, Works.d]
  refine Br_split (fun h1 => ?_) (fun h1 => ?_) <;> simp only [go_sem, h1]
  · have hc : ¬ checkP w = 0 := by simpa using h1
    have hE : jobsE w l = checkP w := by rw [jobsE, if_neg hc]
    simp only [go_sem, jobsT, hE, if_neg hc]
  have hc : checkP w = 0 := by simpa using h1
  have hok := checkP_iff.1 hc
  obtain ⟨l1, l2⟩ := hok.len
  simp only [go_sem, List.length_map]
  refine Br_split (fun h2 => ?_) (fun h2 => ?_) <;> simp only [go_sem, h2]
  · have h2' : l.length > 6 := by simp only [decide_eq_true_eq] at h2; omega
    have hE : jobsE w l = 5 := by rw [jobsE, if_pos hc, if_pos h2']
    simp only [jobsT, hE]
    rfl
  have h2' : ¬ l.length > 6 := by simp only [decide_eq_false_iff_not] at h2; omega
  refine ACallV.of rfl (c111 enc_job l (by omega) 110 [] [.ptr 1 0] (badJob w) (fun x hx Q h => ACallV.of rfl (c110 hw (hj x hx) rfl (by simp [BBs, BB, VBs, VB]) h)) ?_)
  simp only [go_sem]
  refine Br_split (fun h3 => ?_) (fun h3 => ?_) <;> simp only [go_sem, h3]
  · have hE : jobsE w l = 2 := by rw [jobsE, if_pos hc, if_neg h2', if_pos h3]
    simp only [jobsT, hE]
    rfl
  have hE : jobsE w l = 0 := by rw [jobsE, if_pos hc, if_neg h2', if_neg (by rw [h3]; simp)]
  have hgood : ∀ j ∈ l, (1 ≤ j.feet ∧ j.feet ≤ 200) ∧ coatsP w j.coats = true := fun j hj => by
    refine badJob_iff.1 ?_
    cases hb : badJob w j with
    | false => rfl
    | true => rw [List.any_eq_true.2 ⟨j, hj, hb⟩] at h3; cases h3
  simp only [jobsT, hE, if_true, List.length_map, go_sem]
  refine ALoop.by (S := Nat) (fun i => [(38, .d (.int .i64 i)), (37, .d (.int .i64 l.length)), (36, .d (.sl (l.map Job.d))), (5, .ref 2 i 0 i), (4, .ptr 1 0)])
    (fun i => [wrkB w, wrkB w, .arr 1 (decide (i = 0)) (allT w (l.take i))]) (fun i => l.length - i) (fun i => i ≤ l.length) 0 (Nat.zero_le _) (fun _ h => nomatch h) (Nat.zero_le _) ?_ ?_
  · exact ForgetTo.same' (Nat.zero_le _) (by simp [EWe, Env.look]) (by simp [wrkB, allT])
  rintro i hi hn
  have hlT : (allT w (l.take i)).length = i := by simp [allT]; omega
  refine AWP.run (fun k => k == 5 || k == 11) tt_ok (fun _ h => nomatch h) (Nat.zero_le _) rfl ?_
  simp only [go_sem, wrkB]
  refine Br_split (fun hd => ?_) (fun hd => ?_) <;> simp only [go_sem, hd]
  · have hlt : i < l.length := by simpa using hd
    have hix : idx? (l.map Job.d) (i : Int) = some (l[i]).d := by simp [idx?, List.getElem?_eq_getElem hlt]
    obtain ⟨hf, hcp⟩ := hgood _ (List.getElem_mem hlt)
    obtain ⟨hl8, hlm⟩ := coatsP_iff.1 hcp
    have hst : allT w (l.take (i + 1)) = allT w (l.take i) ++ [.sl (takesD w l[i] w.slips.length)] := by rw [List.take_succ_eq_append_getElem hlt, allT, List.map_append]; rfl
    have hnx : IntKind.i64.wrap ((i : Int) + 1) = (i : Int) + 1 := w64 (by omega) (by omega)
    have hi1 : i + 1 ≤ 4294967296 := by omega
    generalize allT w (l.take i) = A at *
    generalize l[i] = j at *
    have hcb := cntF_le j.coats
    simp only [go_sem, hix, Job.d]
    refine (c72 j.coats (by omega) (fun n hn => by have := hlm n hn; omega)).call rfl rfl rfl ?_
    simp only [go_sem, cntD, List.length_map]
    have hbb : BBs 3 [Blk.cells [V.d (.sl (w.slips.map Slip.d)), .d (.int .i64 w.hides), .d (.int .i64 w.drops)], .cells [.d (.sl (w.slips.map Slip.d)), .d (.int .i64 w.hides), .d (.int .i64 w.drops)], .arr 1 false (A ++ [.sl (takesD w j w.slips.length)])] := by simp [BBs, BB, VBs, VB]
    refine ALoop.by (S := Nat) (fun n => [(49, .d (.int .i64 n)), (48, .d (.int .i64 w.slips.length)), (47, .d (.sl (w.slips.map Slip.d))), (38, .d (.int .i64 i)), (37, .d (.int .i64 l.length)), (36, .d (.sl (l.map Job.d))), (11, .ref 5 n 0 n), (10, .ptr 4 0), (9, .ptr 3 0), (5, .ref 2 i 0 i), (4, .ptr 1 0)])
      (fun n => [wrkB w, wrkB w, .arr 1 (decide (i = 0)) A, .cells [.d (.int .i64 j.feet), .d (.sl (j.coats.map (.int .i64)))], cntB (cntF j.coats), .arr 2 (decide (n = 0)) (takesD w j n)]) (fun n => w.slips.length - n) (fun n => n ≤ w.slips.length) 0 (Nat.zero_le _) (fun _ h => nomatch h) (Nat.zero_le _) ?_ ?_
    · exact ForgetTo.same' (Nat.zero_le _) (by simp [EWe, Env.look]) (by simp [wrkB, cntB, takesD])
    rintro n hn2 hnn
    have htl := takesD_len w j n
    refine AWP.run (fun k => k == 5 || k == 11) tt_ok (fun _ h => nomatch h) (Nat.zero_le _) rfl ?_
    simp only [go_sem, wrkB, cntB]
    refine Br_split (fun he => ?_) (fun he => ?_) <;> simp only [go_sem, he]
    · have hnl : n < w.slips.length := by simpa using he
      have hat := Works.at hnl
      have ho := (hok.sl n).ounces
      have hhv := cnt_head (cntF j.coats) (i := n) (by omega)
      have hcn := hcb n
      have hc0 : (0 : Int) ≤ (n : Int) := by omega
      have hc1 : (n : Int) < 4 := by omega
      have hts := takesD_succ w j n
      simp only [takeS, Sp.d] at hts
      have hn1 : n + 1 ≤ 4294967296 := by omega
      have hnx2 : IntKind.i64.wrap ((n : Int) + 1) = (n : Int) + 1 := w64 (by omega) (by omega)
      generalize takesD w j n = B at *
      generalize cntF j.coats n = cn at *
      have m0 : 0 ≤ cn * j.feet ∧ cn * j.feet ≤ 8 * 200 := ⟨Int.mul_nonneg hcn.1 (by omega), Int.mul_le_mul (by omega) (by omega) (by omega) (by omega)⟩
      have m1 : 0 ≤ cn * j.feet * (w.sl n).ounces.lo ∧ cn * j.feet * (w.sl n).ounces.lo ≤ 1600 * 20 := ⟨Int.mul_nonneg m0.1 (by omega), Int.mul_le_mul (by omega) (by omega) (by omega) (by omega)⟩
      have m2 : 0 ≤ cn * j.feet * (w.sl n).ounces.hi ∧ cn * j.feet * (w.sl n).ounces.hi ≤ 1600 * 20 := ⟨Int.mul_nonneg m0.1 (by omega), Int.mul_le_mul (by omega) (by omega) (by omega) (by omega)⟩
      have w1 : IntKind.i64.wrap (cn * j.feet) = cn * j.feet := w64 (by omega) (by omega)
      have w2 : IntKind.i64.wrap (cn * j.feet * (w.sl n).ounces.lo) = cn * j.feet * (w.sl n).ounces.lo := w64 (by omega) (by omega)
      have w3 : IntKind.i64.wrap (cn * j.feet * (w.sl n).ounces.hi) = cn * j.feet * (w.sl n).ounces.hi := w64 (by omega) (by omega)
      simp only [go_sem, hat, Slip.d]
      refine ADrw.treeG (fun k => k == 5 || k == 11) tt_ok (by kernel_rfl) (fun k => if k = 2 ∨ k = 4 then some .L else some .S) (.ones [0, 1, 2, 3, 4, 5, 6] .done) (Nat.zero_le _) (fun _ h => nomatch h) rfl rfl (by kernel_rfl) ?_
      simp only [go_sem, hc0, hc1, Int.toNat_natCast, Nat.mul_one, Nat.zero_add, hhv, w1, w2, w3, htl, hn1]
      refine ⟨n + 1, hnl, by omega, ?_⟩
      refine ForgetTo.drop (H0 := [_, _, _, _, _, _]) (Y := [_]) (Nat.zero_le _) ?_ (by simp [BBs, BB, VBs, VB, wrkB, cntB]) ?_
      · simp [wrkB, cntB, hts]
      · simp [EWp, Env.look, pubV, hnx2]
    · have hne : n = w.slips.length := by simp only [decide_eq_false_iff_not] at he; omega
      subst hne
      have hn0 : decide (w.slips.length = 0) = false := by simp only [decide_eq_false_iff_not]; omega
      have htk : (takesD w j w.slips.length).take w.slips.length = takesD w j w.slips.length := List.take_of_length_le (by omega)
      simp only [go_sem, htl, hn0, hlT, hi1, List.length_map, htk]
      refine ⟨i + 1, hlt, by omega, ?_⟩
      refine ForgetTo.drop (H0 := [_, _, _]) (Y := [_, _, _]) (Nat.zero_le _) ?_ (by simp [BBs, BB, VBs, VB, wrkB]) ?_
      · simp [wrkB, hst]
      · simp [EWp, Env.look, pubV, hnx]
  · have hie : i = l.length := by simp only [decide_eq_false_iff_not] at hd; omega
    subst hie
    rw [List.take_length] at hlT ⊢
    have htk : (allT w l).take l.length = allT w l := List.take_of_length_le (by omega)
    simp only [go_sem, htk, hlT, jobsT, hE, if_true]
end Go.Aw
end

section
set_option maxRecDepth 100000
namespace Go.Aw
open Go Go.Proofs.Try

/-- What jobs take of a slip together. -/
def useS (w : Works) (l : List Job) (i : Nat) : Sp := ⟨(l.map fun j => (takeS w j i).lo).sum, (l.map fun j => (takeS w j i).hi).sum⟩

theorem useS_snoc (w : Works) (l : List Job) (j : Job) (i : Nat) : useS w (l ++ [j]) i = ⟨(useS w l i).lo + (takeS w j i).lo, (useS w l i).hi + (takeS w j i).hi⟩ := by simp [useS]

def usesL (w : Works) (l : List Job) : List Sp := (List.range w.slips.length).map (useS w l)

def JobOk (w : Works) (j : Job) : Prop := (1 ≤ j.feet ∧ j.feet ≤ 200) ∧ coatsP w j.coats = true

theorem takeS_bnd {w : Works} (hok : w.Ok) {j : Job} (hj : JobOk w j) (i : Nat) : 0 ≤ (takeS w j i).lo ∧ (takeS w j i).lo ≤ (takeS w j i).hi ∧ (takeS w j i).hi ≤ 32000 := by
  obtain ⟨hf, hc⟩ := hj
  have hl8 := (coatsP_iff.1 hc).1
  have hcn := cntF_le j.coats i
  have ho := (hok.sl i).ounces
  simp only [takeS]
  generalize cntF j.coats i = cn at *
  have m0 : 0 ≤ cn * j.feet ∧ cn * j.feet ≤ 8 * 200 := ⟨Int.mul_nonneg hcn.1 (by omega), Int.mul_le_mul (by omega) (by omega) (by omega) (by omega)⟩
  have m1 : 0 ≤ cn * j.feet * (w.sl i).ounces.lo := Int.mul_nonneg m0.1 (by omega)
  have m2 : cn * j.feet * (w.sl i).ounces.hi ≤ 1600 * 20 := Int.mul_le_mul (by omega) (by omega) (by omega) (by omega)
  have m3 : cn * j.feet * (w.sl i).ounces.lo ≤ cn * j.feet * (w.sl i).ounces.hi := Int.mul_le_mul_of_nonneg_left (by omega) m0.1
  omega

theorem useS_bnd {w : Works} (hok : w.Ok) (i : Nat) : ∀ l : List Job, (∀ j ∈ l, JobOk w j) → 0 ≤ (useS w l i).lo ∧ (useS w l i).lo ≤ (useS w l i).hi ∧ (useS w l i).hi ≤ 32000 * l.length
  | [], _ => by simp [useS]
  | j :: l, h => by
    have ih := useS_bnd hok i l fun x hx => h x (List.mem_cons_of_mem _ hx)
    have hj := takeS_bnd hok (h j List.mem_cons_self) i
    simp only [useS, List.map_cons, List.sum_cons, List.length_cons] at ih ⊢
    omega

theorem jobsE_ok {w : Works} {l : List Job} (h : jobsE w l = 0) : w.Ok ∧ l.length ≤ 6 ∧ ∀ j ∈ l, JobOk w j := by
  unfold jobsE at h
  split at h
  · rename_i hc
    split at h
    · cases h
    · rename_i h2
      split at h
      · cases h
      · rename_i h3
        refine ⟨checkP_iff.1 hc, by omega, fun j hj => badJob_iff.1 ?_⟩
        cases hb : badJob w j with
        | false => rfl
        | true => exact absurd (List.any_eq_true.2 ⟨j, hj, hb⟩) h3
  · rename_i hc; exact absurd h hc

/-- Uses, slip by slip, in the middle of a job. -/
def useM (w : Works) (l : List Job) (j : Job) (n : Nat) : List D := (List.range w.slips.length).map fun i => if i < n then (useS w (l ++ [j]) i).d else (useS w l i).d

def usesV (w : Works) (l : List Job) : V := if jobsE w l = 0 then .d (.sl ((usesL w l).map Sp.d)) else .slx (some true) []

theorem c26 (w : Works) (l : List Job) (hw : w.slips.length ≤ 4294967296) (hl : l.length ≤ 4294967296) (hj : ∀ j ∈ l, j.coats.length ≤ 4294967296) :
    PC prog 26 [.d w.d, .d (.sl (l.map Job.d))] (.tup [usesV w l, .d (.int .i64 (jobsE w l))]) := by
  refine PC.run (fun k => k == 28) tt_ok (fn := f26) (rs := [.tmp 4, .tmp 5]) rfl rfl rfl rfl rfl rfl rfl ?_
  simp only [go_sem, Works.d]
  refine (c83 w l hw hl hj).call rfl rfl rfl ?_
  simp only [go_sem, Works.d]
  refine Br_split (fun h1 => ?_) (fun h1 => ?_) <;> simp only [go_sem, h1]
  · have hc : ¬ jobsE w l = 0 := by simpa using h1
    rw [usesV, if_neg hc]
  have hc : jobsE w l = 0 := by simpa using h1
  obtain ⟨hok, hl6, hjo⟩ := jobsE_ok hc
  obtain ⟨l1, l2⟩ := hok.len
  have hz : hasSl (D.agg [.int .i64 0, .int .i64 0]) = false := rfl
  have hc0 : (0 : Int) ≤ (w.slips.length : Int) := by omega
  have hn1 : (w.slips.length : Int) ≤ 4294967296 := by omega
  have hd1 : decide ((w.slips.length : Int) ≤ 4294967296) = true := by simpa using hn1
  have hlT : (allT w l).length = l.length := by simp [allT]
  rw [usesV, if_pos hc]
  simp only [go_sem, jobsT, hc, if_true, List.length_map, Int.toNat_natCast, hz, hc0, hn1, hd1, hlT]
  refine ALoop.by (S := Nat) (fun i => [(31, .d (.int .i64 i)), (30, .d (.int .i64 l.length)), (29, .d (.sl (allT w l))), (9, .ref 2 w.slips.length 0 w.slips.length)])
    (fun i => [wrkB w, wrkB w, .arr 2 false ((usesL w (l.take i)).map Sp.d)]) (fun i => l.length - i) (fun i => i ≤ l.length) 0 (Nat.zero_le _) (fun _ h => nomatch h) (Nat.zero_le _) ?_ ?_
  · have e0 : (usesL w []).map Sp.d = List.replicate w.slips.length (.agg [.int .i64 0, .int .i64 0]) := by
      refine List.ext_getElem (by simp [usesL]) fun i h1 h2 => ?_
      simp [usesL, useS, Sp.d]
    exact ForgetTo.same' (Nat.zero_le _) (by simp [EWe, Env.look]) (by simp [wrkB, e0])
  rintro i hi hn
  refine AWP.run (fun k => k == 28) tt_ok (fun _ h => nomatch h) (Nat.zero_le _) rfl ?_
  simp only [go_sem, wrkB]
  refine Br_split (fun hd => ?_) (fun hd => ?_) <;> simp only [go_sem, hd]
  · have hlt : i < l.length := by simpa using hd
    have hix : idx? (allT w l) (i : Int) = some (.sl (takesD w l[i] w.slips.length)) := by simp [idx?, allT, List.getElem?_eq_getElem hlt]
    have hji := hjo _ (List.getElem_mem hlt)
    have htl := takesD_len w l[i] w.slips.length
    have hst : l.take (i + 1) = l.take i ++ [l[i]] := List.take_succ_eq_append_getElem hlt
    have hub := fun n => useS_bnd hok n (l.take i) fun j hj => hjo j (List.mem_of_mem_take hj)
    have hlen : (l.take i).length = i := by simp; omega
    have hnx : IntKind.i64.wrap ((i : Int) + 1) = (i : Int) + 1 := w64 (by omega) (by omega)
    generalize l.take i = L at *
    generalize l[i] = j at *
    have htb := fun n => takeS_bnd hok hji n
    simp only [go_sem, hix, htl]
    refine ALoop.by (S := Nat) (fun n => [(37, .d (.int .i64 n)), (36, .d (.int .i64 w.slips.length)), (35, .d (.sl (takesD w j w.slips.length))), (31, .d (.int .i64 i)), (30, .d (.int .i64 l.length)), (29, .d (.sl (allT w l))), (9, .ref 2 w.slips.length 0 w.slips.length)])
      (fun n => [wrkB w, wrkB w, .arr 2 false (useM w L j n)]) (fun n => w.slips.length - n) (fun n => n ≤ w.slips.length) 0 (Nat.zero_le _) (fun _ h => nomatch h) (Nat.zero_le _) ?_ ?_
    · exact ForgetTo.same' (Nat.zero_le _) (by simp [EWe, Env.look]) (by simp [wrkB, useM, usesL])
    rintro n hn2 hnn
    refine AWP.run (fun k => k == 28) tt_ok (fun _ h => nomatch h) (Nat.zero_le _) rfl ?_
    simp only [go_sem, wrkB]
    refine Br_split (fun he => ?_) (fun he => ?_) <;> simp only [go_sem, he]
    · have hnl : n < w.slips.length := by simpa using he
      have hiy : idx? (takesD w j w.slips.length) (n : Int) = some (.agg [.int .i64 (takeS w j n).lo, .int .i64 (takeS w j n).hi]) := by simp [idx?, takesD, List.getElem?_range hnl, Sp.d]
      have hmg : (useM w L j n)[n]? = some (.agg [.int .i64 (useS w L n).lo, .int .i64 (useS w L n).hi]) := by simp [useM, List.getElem?_range hnl, Sp.d]
      have hml : (useM w L j n).length = w.slips.length := by simp [useM]
      have hms : useM w L j (n + 1) = (useM w L j n).set n (.agg [.int .i64 ((useS w L n).lo + (takeS w j n).lo), .int .i64 ((useS w L n).hi + (takeS w j n).hi)]) := by
        refine List.ext_getElem (by simp [useM]) fun i h1 h2 => ?_
        have hi3 : i < w.slips.length := by simpa [useM] using h1
        rw [List.getElem_set]
        by_cases hin : n = i
        · subst hin
          rw [if_pos rfl]
          simp [useM, useS_snoc, Sp.d]
        · rw [if_neg hin]
          by_cases hlt2 : i < n
          · simp [useM, hlt2, show i < n + 1 by omega]
          · simp [useM, hlt2, show ¬ i < n + 1 by omega]
      have hu1 := hub n
      have ht1 := htb n
      have w1 : IntKind.i64.wrap ((useS w L n).lo + (takeS w j n).lo) = (useS w L n).lo + (takeS w j n).lo := w64 (by omega) (by omega)
      have w2 : IntKind.i64.wrap ((useS w L n).hi + (takeS w j n).hi) = (useS w L n).hi + (takeS w j n).hi := w64 (by omega) (by omega)
      have hnx2 : IntKind.i64.wrap ((n : Int) + 1) = (n : Int) + 1 := w64 (by omega) (by omega)
      have hq0 : (0 : Int) ≤ (n : Int) := by omega
      have hq1 : (n : Int) < w.slips.length := by omega
      generalize useM w L j n = M at *
      simp only [go_sem, hiy]
      refine ADrw.treeG (fun k => k == 28) tt_ok (by kernel_rfl) (fun k => if k = 2 ∨ k = 3 ∨ k = 4 ∨ k = 6 ∨ k = 8 ∨ k = 9 then some .L else if k = 10 then some .W else some .S) (.ones [0, 1, 2, 3, 4, 5, 6, 7, 8, 9, 10] .done) (Nat.zero_le _) (fun _ h => nomatch h) rfl rfl (by kernel_rfl) ?_
      simp only [go_sem, hml, hmg, hq0, hq1, Int.toNat_natCast, Nat.mul_one, Nat.zero_add, w1]
      have hsg : ∀ x : D, (M.set n x)[n]? = some x := fun x => List.getElem?_set_self (by omega)
      refine ADrw.treeG (fun k => k == 28) tt_ok (by kernel_rfl) (fun k => if k = 2 ∨ k = 3 ∨ k = 4 ∨ k = 6 ∨ k = 8 ∨ k = 9 then some .L else if k = 10 then some .W else some .S) (.ones [0, 1, 2, 3, 4, 5, 6, 7, 8, 9, 10] .done) (Nat.zero_le _) (fun _ h => nomatch h) rfl rfl (by kernel_rfl) ?_
      simp only [go_sem, hml, hsg, List.length_set, List.set_set, hq0, hq1, Int.toNat_natCast, Nat.mul_one, Nat.zero_add, w2]
      refine ⟨n + 1, hnl, by omega, ?_⟩
      refine ForgetTo.drop (H0 := [_, _, _]) (Y := [_]) (Nat.zero_le _) ?_ (by simp [BBs, BB, VBs, VB, wrkB]) ?_
      · simp [wrkB, hms]
      · simp [EWp, Env.look, pubV, hnx2]
    · have hne : n = w.slips.length := by simp only [decide_eq_false_iff_not] at he; omega
      subst hne
      have hms : useM w L j w.slips.length = (usesL w (L ++ [j])).map Sp.d := by
        refine List.ext_getElem (by simp [useM, usesL]) fun i h1 h2 => ?_
        have : i < w.slips.length := by simpa [useM] using h1
        simp [useM, usesL, this]
      refine ⟨i + 1, hlt, by omega, ?_⟩
      rw [hst]
      exact ForgetTo.same' (Nat.zero_le _) (by simp [EWe, Env.look, hnx]) (by simp [wrkB, hms])
  · have hie : i = l.length := by simp only [decide_eq_false_iff_not] at hd; omega
    subst hie
    rw [List.take_length]
    have hlu : ((usesL w l).map Sp.d).length = w.slips.length := by simp [usesL]
    have htk : ((usesL w l).map Sp.d).take w.slips.length = (usesL w l).map Sp.d := List.take_of_length_le (by omega)
    have hlu2 : (usesL w l).length = w.slips.length := by simp [usesL]
    simp only [go_sem, hlu2, htk, hc, List.length_map]
end Go.Aw
end

section
set_option maxRecDepth 100000
namespace Go.Aw
open Go Go.Proofs.Try

/-- What is left of a slip. -/
def leftD (of : Sp → Int) (w : Works) (l : List Job) (barrels : List Int) (s : Nat) : Int := barrels.getD s 0 - (l.map fun j => of (takeS w j s)).sum

theorem leftD_snoc (of : Sp → Int) (w : Works) (l : List Job) (j : Job) (barrels : List Int) (s : Nat) : leftD of w (l ++ [j]) barrels s = leftD of w l barrels s - of (takeS w j s) := by
  simp only [leftD, List.map_append, List.sum_append, List.map_cons, List.map_nil, List.sum_cons, List.sum_nil]
  omega

/-- Can so many jobs be done? -/
def canD (of : Sp → Int) (w : Works) (l : List Job) (barrels : List Int) (i : Nat) : Bool := (List.range w.slips.length).all fun s => decide (0 ≤ leftD of w (l.take (i + 1)) barrels s)

def doneN (of : Sp → Int) (w : Works) (l : List Job) (barrels : List Int) : Nat := ((List.range l.length).takeWhile (canD of w l barrels)).length

theorem takeWhile_len {p : Nat → Bool} : ∀ L : List Nat, (∀ x ∈ L, p x = true) → (L.takeWhile p).length = L.length
  | [], _ => rfl
  | x :: L, h => by
    rw [List.takeWhile_cons, h x List.mem_cons_self]
    simp [takeWhile_len L fun y hy => h y (List.mem_cons_of_mem _ hy)]

theorem takeWhile_all {p : Nat → Bool} (n : Nat) (h : ∀ i, i < n → p i = true) : ((List.range n).takeWhile p).length = n := by
  rw [takeWhile_len _ fun i hi => h i (List.mem_range.1 hi), List.length_range]

theorem takeWhile_stop {p : Nat → Bool} {n i : Nat} (hi : i < n) (h : ∀ j, j < i → p j = true) (hp : p i = false) : ((List.range n).takeWhile p).length = i := by
  obtain ⟨m, rfl⟩ : ∃ m, n = i + (m + 1) := ⟨n - i - 1, by omega⟩
  rw [List.range_add, List.range_succ_eq_map, List.map_cons, List.takeWhile_append_of_pos (fun j hj => h j (List.mem_range.1 hj)), List.takeWhile_cons]
  simp [hp]

theorem c85 (s : Sp) : PC prog 85 [.d s.d] (.d (.int .i64 s.hi)) := by
  refine PC.run (fun _ => false) tt_ok (fn := f85) (rs := [.tmp 2]) rfl rfl rfl rfl rfl rfl rfl ?_
  simp only [go_sem, Sp.d]

theorem c86 (s : Sp) : PC prog 86 [.d s.d] (.d (.int .i64 s.lo)) := by
  refine PC.run (fun _ => false) tt_ok (fn := f86) (rs := [.tmp 2]) rfl rfl rfl rfl rfl rfl rfl ?_
  simp only [go_sem, Sp.d]

/-- What is left, in the middle of a job. -/
def leftM (of : Sp → Int) (w : Works) (l : List Job) (j : Job) (barrels : List Int) (n : Nat) : List D := (List.range w.slips.length).map fun s => .int .i64 (if s < n then leftD of w (l ++ [j]) barrels s else leftD of w l barrels s)

def leftL (of : Sp → Int) (w : Works) (l : List Job) (barrels : List Int) : List D := (List.range w.slips.length).map fun s => .int .i64 (leftD of w l barrels s)

theorem c84 (of : Sp → Int) (k : Nat) (hof : ∀ s, PC prog k [.d s.d] (.d (.int .i64 (of s)))) (hofb : ∀ s : Sp, 0 ≤ s.lo ∧ s.lo ≤ s.hi → 0 ≤ of s ∧ of s ≤ s.hi) {w : Works} (hok : w.Ok) {l : List Job} (hl : l.length ≤ 6) (hjo : ∀ j ∈ l, JobOk w j) {barrels : List Int} (hb : barrels.length = w.slips.length) (hbb : ∀ n ∈ barrels, 0 ≤ n ∧ n ≤ 20000) :
    PC prog 84 [.d (.sl (allT w l)), .d (.sl (barrels.map (.int .i64))), .fn (.func k) [] []] (.d (.int .i64 (doneN of w l barrels))) := by
  obtain ⟨l1, l2⟩ := hok.len
  have hlT : (allT w l).length = l.length := by simp [allT]
  have hz : hasSl (D.int .i64 0) = false := rfl
  have hc0 : (0 : Int) ≤ (barrels.length : Int) := by omega
  have hn1 : (barrels.length : Int) ≤ 4294967296 := by omega
  have hd1 : decide ((barrels.length : Int) ≤ 4294967296) = true := by simpa using hn1
  have hsz := sized_ints barrels
  refine PC.run (fun k => k == 14) tt_ok (fn := f84) (rs := [.tmp 6]) rfl rfl rfl rfl rfl rfl rfl ?_
  simp only [go_sem, List.length_map, Int.toNat_natCast, hz, hc0, hn1, hd1, List.length_replicate, hsz, hlT]
  refine ALoop.by (S := Nat) (fun i => [(20, .d (.int .i64 i)), (19, .d (.int .i64 l.length)), (18, .d (.sl (allT w l))), (7, .ref 0 w.slips.length 0 w.slips.length), (6, .d (.int .i64 i)), (2, .fn (.func k) [] [])])
    (fun i => [.arr 1 false (leftL of w (l.take i) barrels)]) (fun i => l.length - i) (fun i => i ≤ l.length ∧ ∀ j, j < i → canD of w l barrels j = true) 0 (Nat.zero_le _) (fun _ h => nomatch h) ⟨Nat.zero_le _, fun j hj => by omega⟩ ?_ ?_
  · have e0 : leftL of w [] barrels = barrels.map (.int .i64) := by
      refine List.ext_getElem (by simp [leftL, hb]) fun i h1 h2 => ?_
      have : i < barrels.length := by simpa using h2
      simp [leftL, leftD, List.getD_eq_getElem?_getD, List.getElem?_eq_getElem this]
    exact ForgetTo.same' (Nat.zero_le _) (by simp [EWe, Env.look, hb]) (by simp [e0])
  rintro i ⟨hi, hall⟩ hn
  refine AWP.run (fun k => k == 14) tt_ok (fun _ h => nomatch h) (Nat.zero_le _) rfl ?_
  simp only [go_sem]
  refine Br_split (fun hd => ?_) (fun hd => ?_) <;> simp only [go_sem, hd]
  · have hlt : i < l.length := by simpa using hd
    have hix : idx? (allT w l) (i : Int) = some (.sl (takesD w l[i] w.slips.length)) := by simp [idx?, allT, List.getElem?_eq_getElem hlt]
    have hji := hjo _ (List.getElem_mem hlt)
    have htl := takesD_len w l[i] w.slips.length
    have hst : l.take (i + 1) = l.take i ++ [l[i]] := List.take_succ_eq_append_getElem hlt
    have hcan : canD of w l barrels i = (List.range w.slips.length).all fun s => decide (0 ≤ leftD of w (l.take i ++ [l[i]]) barrels s) := by rw [canD, hst]
    have hub : ∀ s : Nat, -(32000 * 6) ≤ leftD of w (l.take i) barrels s ∧ leftD of w (l.take i) barrels s ≤ 20000 := fun s => by
      have key : ∀ L : List Job, (∀ j ∈ L, JobOk w j) → 0 ≤ (L.map fun j => of (takeS w j s)).sum ∧ (L.map fun j => of (takeS w j s)).sum ≤ 32000 * L.length := by
        intro L
        induction L with
        | nil => intro _; simp
        | cons j L ih =>
          intro h
          have h1 := ih fun x hx => h x (List.mem_cons_of_mem _ hx)
          have h2 := takeS_bnd hok (h j List.mem_cons_self) s
          have h3 := hofb (takeS w j s) ⟨h2.1, h2.2.1⟩
          simp only [List.map_cons, List.sum_cons, List.length_cons]
          omega
      have h1 := key (l.take i) fun j hj => hjo j (List.mem_of_mem_take hj)
      have h2 : (l.take i).length = i := by simp; omega
      have h3 : 0 ≤ barrels.getD s 0 ∧ barrels.getD s 0 ≤ 20000 := by
        rw [List.getD_eq_getElem?_getD]
        cases hg : barrels[s]? with
        | none => simp
        | some x => exact hbb x (List.mem_of_getElem? hg)
      simp only [leftD]
      omega
    have hnx : IntKind.i64.wrap ((i : Int) + 1) = (i : Int) + 1 := w64 (by omega) (by omega)
    have hstop : canD of w l barrels i = false → doneN of w l barrels = i := fun h => takeWhile_stop hlt hall h
    generalize l.take i = L at *
    generalize l[i] = j at *
    have htb := fun n => takeS_bnd hok hji n
    simp only [go_sem, hix, htl]
    refine ALoop.by (S := Nat) (fun n => [(26, .d (.int .i64 n)), (25, .d (.int .i64 w.slips.length)), (24, .d (.sl (takesD w j w.slips.length))), (20, .d (.int .i64 i)), (19, .d (.int .i64 l.length)), (18, .d (.sl (allT w l))), (7, .ref 0 w.slips.length 0 w.slips.length), (6, .d (.int .i64 i)), (2, .fn (.func k) [] [])])
      (fun n => [.arr 1 false (leftM of w L j barrels n)]) (fun n => w.slips.length - n) (fun n => n ≤ w.slips.length ∧ ∀ s, s < n → 0 ≤ leftD of w (L ++ [j]) barrels s) 0 (Nat.zero_le _) (fun _ h => nomatch h) ⟨Nat.zero_le _, fun s hs => by omega⟩ ?_ ?_
    · exact ForgetTo.same' (Nat.zero_le _) (by simp [EWe, Env.look]) (by simp [leftM, leftL])
    rintro n ⟨hn2, hnn⟩ hn0
    refine AWP.run (fun k => k == 14) tt_ok (fun _ h => nomatch h) (Nat.zero_le _) rfl ?_
    simp only [go_sem]
    refine Br_split (fun he => ?_) (fun he => ?_) <;> simp only [go_sem, he]
    · have hnl : n < w.slips.length := by simpa using he
      have hiy : idx? (takesD w j w.slips.length) (n : Int) = some (.agg [.int .i64 (takeS w j n).lo, .int .i64 (takeS w j n).hi]) := by simp [idx?, takesD, List.getElem?_range hnl, Sp.d]
      have hmg : (leftM of w L j barrels n)[n]? = some (.int .i64 (leftD of w L barrels n)) := by simp [leftM, List.getElem?_range hnl]
      have hml : (leftM of w L j barrels n).length = w.slips.length := by simp [leftM]
      have hsn := leftD_snoc of w L j barrels n
      have hms : leftM of w L j barrels (n + 1) = (leftM of w L j barrels n).set n (.int .i64 (leftD of w L barrels n - of (takeS w j n))) := by
        refine List.ext_getElem (by simp [leftM]) fun q h1 h2 => ?_
        have hq3 : q < w.slips.length := by simpa [leftM] using h1
        rw [List.getElem_set]
        by_cases hin : n = q
        · subst hin
          rw [if_pos rfl]
          simp [leftM, hsn]
        · rw [if_neg hin]
          by_cases hlt2 : q < n
          · simp [leftM, hlt2, show q < n + 1 by omega]
          · simp [leftM, hlt2, show ¬ q < n + 1 by omega]
      have hu1 := hub n
      have ht1 := htb n
      have ho1 := hofb (takeS w j n) ⟨ht1.1, ht1.2.1⟩
      have w1 : IntKind.i64.wrap (leftD of w L barrels n - of (takeS w j n)) = leftD of w L barrels n - of (takeS w j n) := w64 (by omega) (by omega)
      have hnx2 : IntKind.i64.wrap ((n : Int) + 1) = (n : Int) + 1 := w64 (by omega) (by omega)
      have hq0 : (0 : Int) ≤ (n : Int) := by omega
      have hq1 : (n : Int) < w.slips.length := by omega
      generalize leftM of w L j barrels n = M at *
      have hsg : ∀ x : D, (M.set n x)[n]? = some x := fun x => List.getElem?_set_self (by omega)
      simp only [go_sem, hiy]
      refine ADrw.treeG (fun k => k == 14) tt_ok (by kernel_rfl) (fun k => if k = 2 ∨ k = 3 ∨ k = 5 ∨ k = 8 then some .L else if k = 9 then some .W else some .S) (.ones [0, 1, 2, 3, 4, 5, 6, 7, 8, 9] .done) (Nat.zero_le _) (fun _ h => nomatch h) rfl rfl (by kernel_rfl) ?_
      simp only [go_sem, hml, hmg, hq0, hq1, Int.toNat_natCast, Nat.mul_one, Nat.zero_add]
      refine (hof (takeS w j n)).callS rfl rfl rfl rfl rfl rfl ?_
      simp only [go_sem, hml, hmg, hsg, List.length_set, hq0, hq1, Int.toNat_natCast, Nat.mul_one, Nat.zero_add, w1]
      refine Br_split (fun hf => ?_) (fun hf => ?_) <;> simp only [go_sem, hf]
      · have hf' : leftD of w L barrels n - of (takeS w j n) < 0 := by simpa using hf
        have hcf : canD of w l barrels i = false := by
          rw [hcan, ← Bool.not_eq_true, List.all_eq_true]
          intro h
          have := h n (List.mem_range.2 hnl)
          simp only [decide_eq_true_eq] at this
          omega
        rw [hstop hcf]
      · have hf' : ¬ leftD of w L barrels n - of (takeS w j n) < 0 := by simpa using hf
        refine ⟨n + 1, ⟨hnl, fun s hs => ?_⟩, by omega, ?_⟩
        · by_cases hsn2 : s = n
          · subst hsn2; omega
          · exact hnn s (by omega)
        · refine ForgetTo.drop (H0 := [_]) (Y := [_]) (Nat.zero_le _) ?_ (by simp [BBs, BB, VBs, VB]) ?_
          · simp [hms]
          · simp [EWp, Env.look, pubV, pubVs, hnx2]
    · have hne : n = w.slips.length := by simp only [decide_eq_false_iff_not] at he; omega
      subst hne
      have hct : canD of w l barrels i = true := by
        rw [hcan, List.all_eq_true]
        intro s hs
        simpa using hnn s (List.mem_range.1 hs)
      have hms : leftM of w L j barrels w.slips.length = leftL of w (L ++ [j]) barrels := by
        refine List.ext_getElem (by simp [leftM, leftL]) fun q h1 h2 => ?_
        have : q < w.slips.length := by simpa [leftM] using h1
        simp [leftM, leftL, this]
      refine ⟨i + 1, ⟨hlt, fun q hq => ?_⟩, by omega, ?_⟩
      · by_cases e : q = i
        · rw [e]; exact hct
        · exact hall q (by omega)
      · rw [hst]
        exact ForgetTo.same' (Nat.zero_le _) (by simp [EWe, Env.look, hnx]) (by simp [hms])
  · have hie : i = l.length := by simp only [decide_eq_false_iff_not] at hd; omega
    subst hie
    rw [doneN, takeWhile_all _ hall]
/-- How many jobs can be done. -/
def doneP (w : Works) (l : List Job) (barrels : List Int) : Int × Int × Int :=
  if jobsE w l = 0 then (if barrels.length = w.slips.length ∧ within 0 20000 barrels = true then (((doneN Sp.hi w l barrels : Nat) : Int), ((doneN Sp.lo w l barrels : Nat) : Int), 0) else (0, 0, 3)) else (0, 0, jobsE w l)

theorem c27 (w : Works) (l : List Job) (barrels : List Int) (hw : w.slips.length ≤ 4294967296) (hl : l.length ≤ 4294967296) (hj : ∀ j ∈ l, j.coats.length ≤ 4294967296) (hb : barrels.length ≤ 4294967296) :
    PC prog 27 [.d w.d, .d (.sl (l.map Job.d)), .d (.sl (barrels.map (.int .i64)))] (.tup [.d (.int .i64 (doneP w l barrels).1), .d (.int .i64 (doneP w l barrels).2.1), .d (.int .i64 (doneP w l barrels).2.2)]) := by
  refine PC.run (fun _ => false) tt_ok (fn := f27) (rs := [.tmp 6, .tmp 7, .tmp 8]) rfl rfl rfl rfl rfl rfl rfl ?_
  simp only [go_sem, Works.d]
  refine (c83 w l hw hl hj).call rfl rfl rfl ?_
  simp only [go_sem, Works.d]
  refine Br_split (fun h1 => ?_) (fun h1 => ?_) <;> simp only [go_sem, h1]
  · have hc : ¬ jobsE w l = 0 := by simpa using h1
    rw [doneP, if_neg hc]
  have hc : jobsE w l = 0 := by simpa using h1
  obtain ⟨hok, hl6, hjo⟩ := jobsE_ok hc
  simp only [go_sem, List.length_map]
  by_cases h2 : barrels.length = w.slips.length
  · have d2 : decide ((barrels.length : Int) = w.slips.length) = true := by simp only [decide_eq_true_eq]; omega
    simp only [go_sem, d2]
    refine (c68 0 20000 barrels hb).call rfl rfl rfl ?_
    cases h3 : within 0 20000 barrels with
    | false =>
      have hP : doneP w l barrels = (0, 0, 3) := by rw [doneP, if_pos hc, if_neg (by rw [h3]; simp)]
      rw [hP]
      simp only [go_sem]
    | true =>
      have hP : doneP w l barrels = (((doneN Sp.hi w l barrels : Nat) : Int), ((doneN Sp.lo w l barrels : Nat) : Int), 0) := by rw [doneP, if_pos hc, if_pos ⟨h2, h3⟩]
      rw [hP]
      have hbb := within_all.1 h3
      simp only [go_sem, jobsT, hc, if_true]
      refine (c84 Sp.hi 85 c85 (fun s h => by omega) hok hl6 hjo h2 hbb).call rfl rfl rfl ?_
      simp only [go_sem]
      refine (c84 Sp.lo 86 c86 (fun s h => by omega) hok hl6 hjo h2 hbb).call rfl rfl rfl ?_
      simp only [go_sem]
  · have d2 : decide ((barrels.length : Int) = w.slips.length) = false := by simp only [decide_eq_false_iff_not]; omega
    have hP : doneP w l barrels = (0, 0, 3) := by rw [doneP, if_pos hc, if_neg (fun h => h2 h.1)]
    rw [hP]
    simp only [go_sem, d2]
end Go.Aw
end

section
set_option maxRecDepth 100000
namespace Go.Aw
open Go Go.Proofs.Try

structure Stuff where
  frit : Int
  clay : Int
  pence : Int
deriving DecidableEq

def Stuff.d (s : Stuff) : D := .agg [.int .i64 s.frit, .int .i64 s.clay, .int .i64 s.pence]

theorem enc_stuff : Enc 3 (Tt 64) Stuff.d := fun x => ⟨rfl, rfl⟩

structure Want where
  ounces : Int
  frit : Int
  clay : Sp
deriving DecidableEq

def Want.d (w : Want) : D := .agg [.int .i64 w.ounces, .int .i64 w.frit, .int .i64 w.clay.lo, .int .i64 w.clay.hi]

def badStuff (s : Stuff) : Bool := !within 0 100 [s.frit, s.clay] || decide (100 < IntKind.i64.wrap (s.frit + s.clay)) || !within 0 100 [s.pence]

theorem c88 (s : Stuff) : PC prog 88 [.d s.d] (.d (.bool (badStuff s))) := by
  refine PC.run (fun _ => false) tt_ok (fn := f88) (rs := [.tmp 2]) rfl rfl rfl rfl rfl rfl rfl ?_
  simp only [go_sem, Stuff.d]
  refine (c68 0 100 [s.frit, s.clay] (by simp)).call rfl rfl rfl ?_
  simp only [go_sem]
  refine Br_split (fun hc => ?_) (fun hc => ?_)
  · simp only [go_sem, hc, badStuff, Bool.true_or]
  · simp only [go_sem, hc]
    refine Br_split (fun hd => ?_) (fun hd => ?_)
    · simp only [go_sem, hc, hd, badStuff, Bool.true_or, Bool.or_true]
    · simp only [go_sem, hc, hd]
      refine (c68 0 100 [s.pence] (by simp)).call rfl rfl rfl ?_
      simp only [go_sem, hc, hd, badStuff, Bool.false_or]

theorem badStuff_iff {s : Stuff} : badStuff s = false ↔ (0 ≤ s.frit ∧ 0 ≤ s.clay ∧ s.frit + s.clay ≤ 100) ∧ 0 ≤ s.pence ∧ s.pence ≤ 100 := by
  simp only [badStuff, Bool.or_eq_false_iff, Bool.not_eq_false', within_two, within_one, decide_eq_false_iff_not]
  constructor
  · rintro ⟨⟨h1, h2⟩, h3⟩
    rw [w64 (by omega) (by omega)] at h2
    omega
  · intro h
    rw [w64 (by omega) (by omega)]
    omega

def mixB (l : List Stuff) (w : Want) (s : PlanS) : Blk :=
  .cells [.d (.sl (l.map Stuff.d)), .d (.int .i64 w.ounces), .d (.int .i64 w.frit), .d (.int .i64 w.clay.lo), .d (.int .i64 w.clay.hi), lvI s.best, .d (.int .i64 s.pence), .d (.bool s.found)]

theorem BB_mixB (n : Nat) (l : List Stuff) (w : Want) (s : PlanS) : BB n (mixB l w s) := by
  simp [mixB, BB, VBs, VB, VB_lvI]

/-- Stuff that was mixed. -/
def mixD (f c p : Int) : D := .agg [.int .i64 f, .int .i64 c, .int .i64 p]

structure Want.Ok (w : Want) : Prop where
  o : 1 ≤ w.ounces ∧ w.ounces ≤ 24
  f : 0 ≤ w.frit ∧ w.frit ≤ 100
  c : 0 ≤ w.clay.lo ∧ w.clay.lo ≤ w.clay.hi ∧ w.clay.hi ≤ 100

def mixW (w : Want) (f c : Int) : Bool := decide (f ≥ w.frit * w.ounces) && within (w.clay.lo * w.ounces) (w.clay.hi * w.ounces) [c]

theorem mul_bnd {a b : Int} (h1 : 0 ≤ a ∧ a ≤ 100) (h2 : 0 ≤ b ∧ b ≤ 100) : 0 ≤ a * b ∧ a * b ≤ 10000 := by
  have h3 := Int.mul_le_mul h1.2 h2.2 h2.1 (by omega)
  exact ⟨Int.mul_nonneg h1.1 h2.1, by omega⟩

theorem c113 {l : List Stuff} {w : Want} (hw : w.Ok) {s : PlanS} {H : Heap} {id : Nat} (hid : id < H.length) (hbb : BBs H.length H) {f c p : Int} {Q : V → Heap → Prop} (h0 : H[id]? = some (mixB l w s)) (hq : Q (.d (.bool (mixW w f c))) H) : ACalls prog 113 [.ptr id 0, .d (mixD f c p)] H Q := by
  refine ACalls.run (fun _ => false) tt_ok (fn := f113) (rs := [.tmp 4]) rfl rfl rfl rfl rfl rfl rfl ?_
  have b1 := mul_bnd (a := w.frit) (b := w.ounces) hw.f (by have := hw.o; omega)
  have b2 := mul_bnd (a := w.clay.lo) (b := w.ounces) (by have := hw.c; omega) (by have := hw.o; omega)
  have b3 := mul_bnd (a := w.clay.hi) (b := w.ounces) (by have := hw.c; omega) (by have := hw.o; omega)
  have w1 : IntKind.i64.wrap (w.frit * w.ounces) = w.frit * w.ounces := w64 (by omega) (by omega)
  have w2 : IntKind.i64.wrap (w.clay.lo * w.ounces) = w.clay.lo * w.ounces := w64 (by omega) (by omega)
  have w3 : IntKind.i64.wrap (w.clay.hi * w.ounces) = w.clay.hi * w.ounces := w64 (by omega) (by omega)
  have h0' : (H ++ [Blk.cells [.d (.int .i64 f), .d (.int .i64 c), .d (.int .i64 p)]])[id]? = some (mixB l w s) := by rw [List.getElem?_append_left hid]; exact h0
  simp only [mixB] at h0'
  simp only [go_sem, mixD]
  refine ADrw.treeG (fun _ => false) tt_ok (by kernel_rfl) (fun k => if k = 1 ∨ k = 6 ∨ k = 11 ∨ k = 20 ∨ k = 25 ∨ k = 32 ∨ k = 37 ∨ k = 40 then some .L else some .S) (.ones [0, 1, 2, 3, 4, 5, 6, 7, 8, 9, 10, 11, 12, 13, 14, 15, 16, 17, 18, 19, 20, 21, 22, 23, 24, 25, 26, 27, 28, 29, 30, 31, 32, 33, 34, 35, 36, 37, 38, 39, 40, 41, 42, 43, 44] .done) (by simp) (fun _ h => nomatch h) rfl rfl (by kernel_rfl) ?_
  simp only [go_sem, h0', w1, ap0]
  by_cases hf : f ≥ w.frit * w.ounces
  · have d1 : decide (w.frit * w.ounces ≤ f) = true := by simpa using hf
    have hm : mixW w f c = within (w.clay.lo * w.ounces) (w.clay.hi * w.ounces) [c] := by rw [mixW, show decide (f ≥ w.frit * w.ounces) = true from d1, Bool.true_and]
    rw [hm] at hq
    simp only [go_sem, d1, h0', w2, w3, ap0]
    refine (c68 (w.clay.lo * w.ounces) (w.clay.hi * w.ounces) [c] (by simp)).callS rfl rfl rfl rfl rfl rfl ?_
    simp only [go_sem]
    rw [List.take_left]
    exact ⟨.inr hbb, hq⟩
  · have d1 : decide (w.frit * w.ounces ≤ f) = false := by simpa using hf
    have hm : mixW w f c = false := by rw [mixW, show decide (f ≥ w.frit * w.ounces) = false from d1, Bool.false_and]
    rw [hm] at hq
    simp only [go_sem, d1, h0', ap0]
    rw [List.take_left]
    exact ⟨.inr hbb, hq⟩
end Go.Aw
end

section
set_option maxRecDepth 100000
namespace Go.Aw
open Go Go.Proofs.Try

def earlyM (s : PlanS) (p : Int) : Bool := s.found && decide (p ≥ s.pence)

/-- The mixer adds the stuff that is left. -/
def mixF (w : Want) : List Stuff → List Int → Nat → Int → Int → Int → PlanS → PlanS
  | [], l, left, f, c, p, s => if earlyM s p = true then s else if (decide (left = 0) && mixW w f c) = true then ⟨l, p, true⟩ else s
  | x :: r, l, left, f, c, p, s => if earlyM s p = true then s else (List.range (left + 1)).foldl (fun s (n : Nat) => mixF w r (l ++ [(n : Int)]) (left - n) (f + n * x.frit) (c + n * x.clay) (p + n * x.pence) s) s

theorem mixF_len (w : Want) : ∀ (r : List Stuff) (l : List Int) (left : Nat) (f c p : Int) (s : PlanS), l.length + r.length ≤ 4 → s.best.length ≤ 4 → (mixF w r l left f c p s).best.length ≤ 4
  | [], l, left, f, c, p, s, h1, h2 => by
    simp only [mixF]
    split
    · exact h2
    · split
      · simpa using h1
      · exact h2
  | x :: r, l, left, f, c, p, s, h1, h2 => by
    simp only [mixF]
    split
    · exact h2
    · have key : ∀ (L : List Nat) (s : PlanS), s.best.length ≤ 4 → (L.foldl (fun s (n : Nat) => mixF w r (l ++ [(n : Int)]) (left - n) (f + n * x.frit) (c + n * x.clay) (p + n * x.pence) s) s).best.length ≤ 4 := by
        intro L
        induction L with
        | nil => intro s h; exact h
        | cons n L ih =>
          intro s h
          rw [List.foldl_cons]
          exact ih _ (mixF_len w r _ _ _ _ _ _ (by simp at h1 ⊢; omega) h)
      exact key _ _ h2

theorem c115 (l : List Int) (hl : l.length ≤ 1000) : PC prog 115 [lvI l] (.slx none (l.map (.int .i64))) := by
  refine PC.run (fun _ => false) tt_ok (fn := f115) (rs := [.tmp 2]) rfl rfl rfl rfl rfl rfl rfl ?_
  have h0 := sized_ints l
  have hcl : (0 : Int) ≤ (l.length : Int) := by omega
  have htl : (l.map (D.int .i64)).take l.length = l.map (.int .i64) := List.take_of_length_le (by simp)
  simp only [go_sem, alen_lvI, aslice_lvI, h0, hcl, htl, Int.toNat_natCast, List.length_map, Nat.le_refl, Nat.zero_le, List.drop_zero]

structure Stuff.Ok (s : Stuff) : Prop where
  f : 0 ≤ s.frit ∧ 0 ≤ s.clay ∧ s.frit + s.clay ≤ 100
  p : 0 ≤ s.pence ∧ s.pence ≤ 100

theorem mulN_bnd {n : Nat} {m : Nat} {b : Int} (h : n ≤ m) (h2 : 0 ≤ b ∧ b ≤ 100) : 0 ≤ (n : Int) * b ∧ (n : Int) * b ≤ 100 * n := by
  have h3 := Int.mul_le_mul_of_nonneg_left h2.2 (show (0 : Int) ≤ n by omega)
  exact ⟨Int.mul_nonneg (by omega) h2.1, by omega⟩

theorem c90_head {all : List Stuff} {w : Want} {l : List Int} {left : Nat} {f c p : Int} {s : PlanS} {H : Heap} {id : Nat} (hid : id < H.length) (hbb : BBs H.length H) {Q : V → Heap → Prop}
    (he : earlyM s p = true → Q (.tup []) (H.set id (mixB all w s)))
    (hrest : earlyM s p = false → AWP prog f90.ntmps H.length none (restC 2 (bodyOf f90)) [(7, .ptr H.length 0), (2, .d (.int .i64 left)), (1, lvI l), (0, .ptr id 0)] (H.set id (mixB all w s) ++ [.cells [.d (.int .i64 f), .d (.int .i64 c), .d (.int .i64 p)]]) (FnPost Tt [] H.length Q)) :
    ACalls prog 90 [.ptr id 0, lvI l, .d (.int .i64 left), .d (mixD f c p)] (H.set id (mixB all w s)) Q := by
  refine ACalls.bodyN tt_ok (fn := f90) (c := bodyOf f90) (rs := []) rfl rfl rfl rfl rfl rfl ?_
  rw [hx_len]
  have htk : ∀ X Y : Blk, (H.set id X ++ [Y]).take H.length = H.set id X := fun X Y => by
    rw [List.take_append_of_le_length (by simp)]; exact List.take_of_length_le (by simp)
  cases hE : earlyM s p with
  | false =>
    refine AWP.stepN 2 _ _ (fun _ => false) tt_ok (fun _ h => nomatch h) (by simp) rfl ?_ (hrest hE)
    simp only [go_sem, mixD, hx_len]
    refine ADrw.treeG (fun _ => false) tt_ok (by kernel_rfl) (fun k => if k = 3 ∨ k = 6 ∨ k = 10 then some .L else some .S) (.ones [0, 1, 2, 3, 4, 5, 6, 7, 8, 9, 10, 11, 12] .done) (by simp) (fun _ h => nomatch h) rfl rfl (by kernel_rfl) ?_
    simp only [go_sem, hx_get' hid, hx_len, mixB, hx_new0, ap0]
    cases hfo : s.found with
    | true =>
      have hpp : decide (s.pence ≤ p) = false := by simpa [earlyM, hfo] using hE
      simp only [go_sem, hx_get' hid, hx_len, hpp, hx_new0]
      exact ForgetTo.same' (by simp) (by simp [EWe, Env.look]) (by simp [mixB, hfo])
    | false =>
      simp only [go_sem, hx_get' hid, hx_len, hx_new0]
      exact ForgetTo.same' (by simp) (by simp [EWe, Env.look]) (by simp [mixB, hfo])
  | true =>
    have hfo : s.found = true := by simp only [earlyM, Bool.and_eq_true] at hE; exact hE.1
    have hpp : decide (s.pence ≤ p) = true := by simpa [earlyM, hfo] using hE
    have hF := he hE
    refine AWP.runS (fun _ => false) tt_ok (fun _ h => nomatch h) (by simp) rfl ?_
    simp only [go_sem, mixD, hx_len]
    refine ADrw.treeG (fun _ => false) tt_ok (by kernel_rfl) (fun k => if k = 3 ∨ k = 6 ∨ k = 10 then some .L else some .S) (.ones [0, 1, 2, 3, 4, 5, 6, 7, 8, 9, 10, 11, 12] .done) (by simp) (fun _ h => nomatch h) rfl rfl (by kernel_rfl) ?_
    simp only [go_sem, hx_get' hid, hx_len, mixB, hx_new0, ap0, hfo]
    simp only [go_sem, hx_get' hid, hx_len, hpp, hx_new0]
    refine ⟨.inr ?_, ?_⟩
    · rw [htk]; exact BBs_set hbb (by simpa [mixB, hfo] using BB_mixB H.length all w s)
    · rw [htk]; simpa [mixB, hfo] using hF

theorem c90 {all : List Stuff} (hall : ∀ s ∈ all, s.Ok) (h4 : all.length ≤ 4) {w : Want} (hw : w.Ok) : ∀ (r pre : List Stuff) (l : List Int) (left : Nat) (f c p : Int) (s : PlanS) (H : Heap) (id : Nat), all = pre ++ r → l.length = pre.length → id < H.length → BBs H.length H → left ≤ 24 →
    (0 ≤ f ∧ f + 100 * left ≤ 10000) → (0 ≤ c ∧ c + 100 * left ≤ 10000) → (0 ≤ p ∧ p + 100 * left ≤ 10000) → s.best.length ≤ 4 →
    ∀ Q : V → Heap → Prop, Q (.tup []) (H.set id (mixB all w (mixF w r l left f c p s))) → ACalls prog 90 [.ptr id 0, lvI l, .d (.int .i64 left), .d (mixD f c p)] (H.set id (mixB all w s)) Q := by
  intro r
  induction r with
  | nil =>
    intro pre l left f c p s H id ha hl hid hbb hle hf hc hp hs Q hq
    have hla : l.length = all.length := by rw [ha, hl]; simp
    have d1 : decide ((l.length : Int) = all.length) = true := by simp only [decide_eq_true_eq]; omega
    refine c90_head hid hbb (fun he => by
      have : mixF w [] l left f c p s = s := by simp only [mixF]; rw [if_pos he]
      rwa [this] at hq) fun he => ?_
    have hF : mixF w [] l left f c p s = if (decide (left = 0) && mixW w f c) = true then ⟨l, p, true⟩ else s := by
      simp only [mixF]; rw [if_neg (by rw [he]; simp)]
    rw [hF] at hq
    have htk : ∀ X Y : Blk, (H.set id X ++ [Y]).take H.length = H.set id X := fun X Y => by
      rw [List.take_append_of_le_length (by simp)]; exact List.take_of_length_le (by simp)
    have htM : (H.set id (mixB all w s) ++ [Blk.cells [.d (.int .i64 f), .d (.int .i64 c), .d (.int .i64 p)]])[id]? = some (mixB all w s) := by
      rw [List.getElem?_append_left (by simpa using hid)]; simp [hid]
    have hb2 : BBs (H.set id (mixB all w s) ++ [Blk.cells [.d (.int .i64 f), .d (.int .i64 c), .d (.int .i64 p)]]).length (H.set id (mixB all w s) ++ [Blk.cells [.d (.int .i64 f), .d (.int .i64 c), .d (.int .i64 p)]]) :=
      BBs_append (BBs_set (BBs_le (by simp) hbb) (BB_mixB _ _ _ _)) (by simp [BBs, BB, VBs, VB])
    have fin : ∀ s' : PlanS, (if (decide (left = 0) && mixW w f c) = true then ⟨l, p, true⟩ else s) = s' → ∀ Y : Blk, ((H.set id (mixB all w s') ++ [Y]).length ≤ H.length ∨ BBs H.length ((H.set id (mixB all w s') ++ [Y]).take H.length)) ∧ Q (.tup []) ((H.set id (mixB all w s') ++ [Y]).take H.length) := fun s' he Y => by
      rw [htk, ← he]
      exact ⟨.inr (BBs_set hbb (BB_mixB _ _ _ _)), hq⟩
    have hvc := lvI_cells l
    have hlo := lvI_one l
    refine AWP.runS (fun _ => false) tt_ok (fun _ h => nomatch h) (by simp) rfl ?_
    simp only [go_sem, mixB, hx_get' hid, hx_len, alen_lvI, d1, List.length_map]
    refine Br_split (fun h1 => ?_) (fun h1 => ?_) <;> simp only [go_sem, h1]
    · have hl0 : left = 0 := by simp only [decide_eq_true_eq] at h1; omega
      simp only [go_sem, hx_get' hid, hx_len, hx_new0]
      have key := fun Q => c113 (Q := Q) (l := all) (s := s) hw (by simp; omega) hb2 (f := f) (c := c) (p := p) htM
      simp only [mixB, mixD] at key
      refine ACallV.of rfl (key _ ?_)
      cases hm : mixW w f c with
      | false =>
        have hF := fin s (by rw [hm]; simp)
        simp only [mixB] at hF
        simp only [go_sem]
        exact hF _
      | true =>
        have hF := fin ⟨l, p, true⟩ (by rw [hm, hl0]; simp)
        simp only [mixB] at hF
        simp only [go_sem]
        refine ADrw.treeG (fun _ => false) tt_ok (by kernel_rfl) (fun k => if k = 6 then some .L else if k = 9 ∨ k = 12 ∨ k = 15 then some .W else some .S) (.ones [0, 1, 2, 3, 4, 5, 7, 8] (.two 6 (.ones [9, 10, 11, 12, 13, 14, 15] .done) 9 (.ones [6, 10, 11, 12, 13, 14, 15] .done))) (by simp) (fun _ h => nomatch h) rfl rfl (by kernel_rfl) ?_
        simp only [go_sem, hx_get' hid, hx_len]
        refine ⟨rfl, by simp [VBs, VB_lvI], lvI l, clone_lvI (by omega) ⟨rfl, rfl⟩, ?_⟩
        simp only [go_sem, hx_get' hid, hx_len, hx_set' hid, hx_new0, hvc, hlo]
        exact hF _
    · have hl0 : ¬ left = 0 := by simp only [decide_eq_false_iff_not] at h1; omega
      have hF := fin s (by rw [decide_eq_false hl0]; simp)
      simp only [mixB] at hF
      exact hF _
  | cons x r ih =>
    intro pre l left f c p s H id ha hl hid hbb hle hf hc hp hs Q hq
    have hlt : l.length < all.length := by rw [ha, hl]; simp
    have d1 : decide ((l.length : Int) = all.length) = false := by simp only [decide_eq_false_iff_not]; omega
    have hix : idx? (all.map Stuff.d) (l.length : Int) = some x.d := by rw [ha, hl]; simp [idx?]
    have hx := hall x (by rw [ha]; simp)
    refine c90_head hid hbb (fun he => by
      have : mixF w (x :: r) l left f c p s = s := by simp only [mixF]; rw [if_pos he]
      rwa [this] at hq) fun he => ?_
    have hF : mixF w (x :: r) l left f c p s = (List.range (left + 1)).foldl (fun s (n : Nat) => mixF w r (l ++ [(n : Int)]) (left - n) (f + n * x.frit) (c + n * x.clay) (p + n * x.pence) s) s := by
      simp only [mixF]; rw [if_neg (by rw [he]; simp)]
    rw [hF] at hq
    clear hF he
    have htk : ∀ X Y Z : Blk, (H.set id X ++ [Y, Z]).take H.length = H.set id X := fun X Y Z => by
      rw [List.take_append_of_le_length (by simp)]; exact List.take_of_length_le (by simp)
    have hl1 : IntKind.i64.wrap ((left : Int) + 1) = ((left + 1 : Nat) : Int) := by rw [w64 (by omega) (by omega)]; omega
    refine AWP.runS (fun _ => false) tt_ok (fun _ h => nomatch h) (by simp) rfl ?_
    simp only [go_sem, mixB, hx_get' hid, hx_len, alen_lvI, aidx_lvI, d1, List.length_map, hix, Stuff.d, hl1, hx_new0, hx_put0, hx_new1, hx_put1, List.append_assoc, List.cons_append, List.nil_append, List.length_append, List.length_cons, List.length_nil]
    refine ALoop.by (S := Nat × PlanS) (fun t => [(61, .d (.int .i64 t.1)), (60, .d (.int .i64 ((left + 1 : Nat) : Int))), (8, .ptr (H.length + 1) 0), (7, .ptr H.length 0), (2, .d (.int .i64 left)), (1, lvI l), (0, .ptr id 0)])
      (fun t => H.set id (mixB all w t.2) ++ [.cells [.d (.int .i64 f), .d (.int .i64 c), .d (.int .i64 p)], .cells [.d (.int .i64 x.frit), .d (.int .i64 x.clay), .d (.int .i64 x.pence)]]) (fun t => left + 1 - t.1) (fun t => t.1 ≤ left + 1 ∧ t.2 = (List.range t.1).foldl (fun s (n : Nat) => mixF w r (l ++ [(n : Int)]) (left - n) (f + n * x.frit) (c + n * x.clay) (p + n * x.pence) s) s ∧ t.2.best.length ≤ 4) (0, s) (by simp) (fun _ h => nomatch h) ⟨by omega, rfl, hs⟩ ?_ ?_
    · exact ForgetTo.same' (by simp) (by simp [EWe, Env.look, hx_len]) (by simp [mixB])
    rintro ⟨n, s1⟩ ⟨hn1, hs1, hs4⟩ hn'
    dsimp only at hn1 hs1 hs4
    refine AWP.run (fun _ => false) tt_ok (fun _ h => nomatch h) (by simp) rfl ?_
    simp only [go_sem]
    refine Br_split (fun hd => ?_) (fun hd => ?_) <;> simp only [go_sem, hd]
    · have hnl : n < left + 1 := by simp only [decide_eq_true_eq] at hd; omega
      have hst : (List.range (n + 1)).foldl (fun s (n : Nat) => mixF w r (l ++ [(n : Int)]) (left - n) (f + n * x.frit) (c + n * x.clay) (p + n * x.pence) s) s = mixF w r (l ++ [(n : Int)]) (left - n) (f + n * x.frit) (c + n * x.clay) (p + n * x.pence) s1 := by
        rw [List.range_succ, List.foldl_append, ← hs1]; rfl
      have m1 := mulN_bnd (n := n) (m := left) (by omega) (b := x.frit) (by have := hx.f; omega)
      have m2 := mulN_bnd (n := n) (m := left) (by omega) (b := x.clay) (by have := hx.f; omega)
      have m3 := mulN_bnd (n := n) (m := left) (by omega) (b := x.pence) hx.p
      have w1 : IntKind.i64.wrap ((n : Int) * x.frit) = n * x.frit := w64 (by omega) (by omega)
      have w2 : IntKind.i64.wrap ((n : Int) * x.clay) = n * x.clay := w64 (by omega) (by omega)
      have w3 : IntKind.i64.wrap ((n : Int) * x.pence) = n * x.pence := w64 (by omega) (by omega)
      have w4 : IntKind.i64.wrap (f + (n : Int) * x.frit) = f + n * x.frit := w64 (by omega) (by omega)
      have w5 : IntKind.i64.wrap (c + (n : Int) * x.clay) = c + n * x.clay := w64 (by omega) (by omega)
      have w6 : IntKind.i64.wrap (p + (n : Int) * x.pence) = p + n * x.pence := w64 (by omega) (by omega)
      have w7 : IntKind.i64.wrap ((left : Int) - n) = ((left - n : Nat) : Int) := by rw [w64 (by omega) (by omega)]; omega
      have hnx : IntKind.i64.wrap ((n : Int) + 1) = ((n + 1 : Nat) : Int) := by rw [w64 (by omega) (by omega)]; omega
      have hsz := sized_ints l
      have hle1 : l.length + 1 ≤ 4294967296 := by omega
      refine ADrw.treeG (fun _ => false) tt_ok (by kernel_rfl) (fun k => if k = 31 then none else if k = 10 ∨ k = 13 ∨ k = 17 ∨ k = 20 ∨ k = 24 ∨ k = 27 then some .L else some .S) (.ones [0, 1, 2, 3, 4, 5, 6, 7, 8, 9, 10, 11, 12, 13, 14, 15, 16, 17, 18, 19, 20, 21, 22, 23, 24, 25, 26, 27, 28, 29, 30] (.only 31 .done)) (by simp) (fun _ h => nomatch h) rfl rfl (by kernel_rfl) ?_
      simp only [go_sem]
      refine ⟨rfl, by simp [VBs, VB_lvI], .slx none (l.map (.int .i64)), (c115 l (by omega)).use (by simp [VBs, VB_lvI]) rfl ⟨rfl, rfl⟩, ?_⟩
      simp only [go_sem, hx_get' hid, hx_len, hx_new0, hx_put0, hx_new1, hx_put1, hsz, hle1, w1, w2, w3, w4, w5, w6, w7, List.length_map]
      have hYb : ∀ m : Nat, BBs m [Blk.cells [.d (.int .i64 f), .d (.int .i64 c), .d (.int .i64 p)], Blk.cells [.d (.int .i64 x.frit), .d (.int .i64 x.clay), .d (.int .i64 x.pence)]] := fun m => by simp [BBs, BB, VBs, VB]
      have key := fun Q => ih (pre ++ [x]) (l ++ [(n : Int)]) (left - n) (f + n * x.frit) (c + n * x.clay) (p + n * x.pence) s1 (H.set id (mixB all w s1) ++ [Blk.cells [.d (.int .i64 f), .d (.int .i64 c), .d (.int .i64 p)], Blk.cells [.d (.int .i64 x.frit), .d (.int .i64 x.clay), .d (.int .i64 x.pence)]]) id
        (by rw [ha]; simp) (by simp [hl]) (by simp; omega) (BBs_append (BBs_set (BBs_le (by simp) hbb) (BB_mixB _ _ _ _)) (hYb _)) (by omega) ⟨by omega, by omega⟩ ⟨by omega, by omega⟩ ⟨by omega, by omega⟩ hs4 Q
      simp only [hx_set' hid, lvI_append, mixD] at key
      refine ACallV.of rfl (key _ ?_)
      have hln : (l ++ [(n : Int)]).length + r.length ≤ 4 := by
        have : all.length = pre.length + (r.length + 1) := by rw [ha]; simp
        simp; omega
      have hm4 := mixF_len w r (l ++ [(n : Int)]) (left - n) (f + n * x.frit) (c + n * x.clay) (p + n * x.pence) s1 hln hs4
      generalize mixF w r (l ++ [(n : Int)]) (left - n) (f + n * x.frit) (c + n * x.clay) (p + n * x.pence) s1 = s2 at hst hm4 ⊢
      simp only [go_sem, hx_get' hid, hx_len]
      refine ⟨(n + 1, s2), ⟨hnl, hst.symm, hm4⟩, by simp; omega, ?_⟩
      exact ForgetTo.same' (by simp) (by simp [EWe, Env.look, hnx]) rfl
    · have hne : n = left + 1 := by simp only [decide_eq_false_iff_not] at hd; omega
      subst hne
      rw [htk]
      rw [← hs1] at hq
      exact ⟨.inr (BBs_set hbb (BB_mixB _ _ _ _)), hq⟩

def mixE (l : List Stuff) (w : Want) : Int :=
  if l.length = 0 then 7 else if l.length > 4 then 5 else if l.any badStuff = true then 2 else if (!within 1 24 [w.ounces] || !within 0 100 [w.frit] || !(within 0 100 [w.clay.lo, w.clay.hi] && decide (w.clay.lo ≤ w.clay.hi))) = true then 3 else 0

/-- The cheapest mixture. -/
def mixO (l : List Stuff) (w : Want) : PlanS := mixF w l [] w.ounces.toNat 0 0 0 ⟨[], 0, false⟩

def mixP (l : List Stuff) (w : Want) : List Int × Int × Int :=
  if mixE l w = 0 then (if (mixO l w).found = true then ((mixO l w).best, (mixO l w).pence, 0) else ([], 0, 9)) else ([], 0, mixE l w)

theorem mixE_ok {l : List Stuff} {w : Want} (h : mixE l w = 0) : (0 < l.length ∧ l.length ≤ 4) ∧ (∀ s ∈ l, s.Ok) ∧ w.Ok := by
  unfold mixE at h
  split at h
  · omega
  rename_i h1
  split at h
  · omega
  rename_i h2
  split at h
  · omega
  rename_i h3
  split at h
  · omega
  rename_i h4
  refine ⟨⟨by omega, by omega⟩, fun s hs => ?_, ?_⟩
  · have h5 : badStuff s = false := by
      rw [← Bool.not_eq_true]
      exact fun h => h3 (List.any_eq_true.2 ⟨s, hs, h⟩)
    obtain ⟨h6, h7⟩ := badStuff_iff.1 h5
    exact ⟨h6, h7⟩
  · simp only [Bool.or_eq_true, Bool.not_eq_true', not_or, Bool.not_eq_false, Bool.and_eq_true, within_one, within_two, decide_eq_true_eq] at h4
    exact ⟨by omega, by omega, by omega⟩

theorem c34 (l : List Stuff) (w : Want) (hl : l.length ≤ 4294967296) :
    PC prog 34 [.d (.sl (l.map Stuff.d)), .d w.d] (.tup [lvI (mixP l w).1, .d (.int .i64 (mixP l w).2.1), .d (.int .i64 (mixP l w).2.2)]) := by
  refine PC.run (fun k => k == 38) tt_ok (fn := f34) (rs := [.tmp 4, .tmp 5, .tmp 6]) rfl rfl rfl rfl rfl rfl rfl ?_
  simp only [go_sem, Want.d, List.length_map]
  have bad : ∀ e : Int, mixE l w = e → e ≠ 0 → mixP l w = ([], 0, e) := fun e h h0 => by rw [mixP, if_neg (by rw [h]; exact h0), h]
  refine Br_split (fun h1 => ?_) (fun h1 => ?_) <;> simp only [go_sem, h1]
  · have hc : l.length = 0 := by simp only [decide_eq_true_eq] at h1; omega
    rw [bad 7 (by rw [mixE, if_pos hc]) (by omega)]
    rfl
  have hc1 : ¬ l.length = 0 := by simp only [decide_eq_false_iff_not] at h1; omega
  refine Br_split (fun h2 => ?_) (fun h2 => ?_) <;> simp only [go_sem, h2]
  · have hc : l.length > 4 := by simp only [decide_eq_true_eq] at h2; omega
    rw [bad 5 (by rw [mixE, if_neg hc1, if_pos hc]) (by omega)]
    rfl
  have hc2 : ¬ l.length > 4 := by simp only [decide_eq_false_iff_not] at h2; omega
  refine ACallV.of rfl (c89 enc_stuff l hl 88 [] [] badStuff (fun x _ Q h => (c88 x).call rfl rfl rfl h) ?_)
  simp only [go_sem]
  refine Br_split (fun h3 => ?_) (fun h3 => ?_) <;> simp only [go_sem, h3]
  · rw [bad 2 (by rw [mixE, if_neg hc1, if_neg hc2, if_pos h3]) (by omega)]
    rfl
  have hc3 : ¬ l.any badStuff = true := by rw [h3]; simp
  have hE : ∀ b, (!within 1 24 [w.ounces] || !within 0 100 [w.frit] || !(within 0 100 [w.clay.lo, w.clay.hi] && decide (w.clay.lo ≤ w.clay.hi))) = b → mixE l w = if b = true then 3 else 0 := fun b hb => by rw [mixE, if_neg hc1, if_neg hc2, if_neg hc3, hb]
  refine (c68 1 24 [w.ounces] (by simp)).call rfl rfl rfl ?_
  cases h4 : within 1 24 [w.ounces] with
  | false =>
    rw [bad 3 (hE true (by rw [h4]; rfl)) (by omega)]
    simp only [go_sem]
    rfl
  | true =>
  simp only [go_sem]
  refine (c68 0 100 [w.frit] (by simp)).call rfl rfl rfl ?_
  cases h5 : within 0 100 [w.frit] with
  | false =>
    rw [bad 3 (hE true (by rw [h4, h5]; rfl)) (by omega)]
    simp only [go_sem]
    rfl
  | true =>
  simp only [go_sem]
  refine (c67 0 100 w.clay).call rfl rfl rfl ?_
  cases h6 : (within 0 100 [w.clay.lo, w.clay.hi] && decide (w.clay.lo ≤ w.clay.hi)) with
  | false =>
    rw [bad 3 (hE true (by rw [h4, h5, h6]; rfl)) (by omega)]
    simp only [go_sem]
    rfl
  | true =>
  have h0 : mixE l w = 0 := hE false (by rw [h4, h5, h6]; rfl)
  obtain ⟨⟨l1, l2⟩, hso, hwo⟩ := mixE_ok h0
  have hP : mixP l w = if (mixO l w).found = true then ((mixO l w).best, (mixO l w).pence, 0) else ([], 0, 9) := by rw [mixP, if_pos h0]
  rw [hP]
  have hoz : ((w.ounces.toNat : Nat) : Int) = w.ounces := Int.toNat_of_nonneg (by have := hwo.o; omega)
  have ho24 : w.ounces.toNat ≤ 24 := by have := hwo.o; omega
  simp only [go_sem]
  have key := fun Q => c90 hso l2 hwo l [] [] w.ounces.toNat 0 0 0 ⟨[], 0, false⟩ [.cells [.d (.int .i64 w.ounces), .d (.int .i64 w.frit), .d (.int .i64 w.clay.lo), .d (.int .i64 w.clay.hi)], mixB l w ⟨[], 0, false⟩] 1 rfl rfl (by simp) ⟨by simp [BB, VBs, VB], BB_mixB _ _ _ _, trivial⟩ ho24 (by omega) (by omega) (by omega) (by simp) Q
  rw [hoz] at key
  refine ACallV.of rfl (key _ ?_)
  have hO : mixF w l [] w.ounces.toNat 0 0 0 ⟨[], 0, false⟩ = mixO l w := rfl
  rw [hO]
  generalize mixO l w = s
  simp only [go_sem, mixB]
  refine Br_split (fun h7 => ?_) (fun h7 => ?_) <;> simp only [go_sem, h7]
  · have h7' : ¬ s.found = true := by simpa using h7
    simp only [if_neg h7']
    rfl
  · have h7' : s.found = true := by simpa using h7
    simp only [if_pos h7']
    refine ADrw.treeG (fun k => k == 38) tt_ok (by kernel_rfl) (fun k => if k = 3 ∨ k = 7 then some .L else some .S) (.ones [0, 1, 2, 3, 4, 5, 6, 7, 8, 9, 10] .done) (Nat.zero_le _) (fun _ h => nomatch h) rfl rfl (by kernel_rfl) ?_
    simp only [go_sem, pubV_lvI]
end Go.Aw
end

section
set_option maxRecDepth 100000
namespace Go.Proofs
open Go.Shelf

/-- The numbers of slices.Grow, at lists of integers. -/
def growI_ren : Go.Shelf.Ren := ⟨fun | 4 => 137 | n => n, fun | 22 => 25 | 25 => 3 | n => n, fun n => n⟩

theorem growI : Lays8.n4 Try.prog growI_ren where
  mixed := by kernel_rfl
  f4 := ⟨"slices.Grow[[]int,int]", by decide, Try.func137.trans (congrArg some (by kernel_rfl))⟩
  t0 := Try.underlying0
  a0 := Try.isAgg0
  z0 := Try.sizeOf0
  v0 := Try.zeroValue0
  t3 := Try.underlying3
  a3 := Try.isAgg3
  z3 := Try.sizeOf3
  v3 := Try.zeroValue3
  t4 := Try.underlying4
  a4 := Try.isAgg4
  z4 := Try.sizeOf4
  v4 := Try.zeroValue4
  t9 := Try.underlying9
  a9 := Try.isAgg9
  z9 := Try.sizeOf9
  v9 := Try.zeroValue9
  t20 := Try.underlying20
  a20 := Try.isAgg20
  z20 := Try.sizeOf20
  v20 := Try.zeroValue20
  t22 := Try.underlying25
  a22 := Try.isAgg25
  z22 := Try.sizeOf25
  v22 := Try.zeroValue25
end Go.Proofs
namespace Go.Aw
open Go Go.Proofs.Try

theorem c137 {n : Nat} (h0 : 0 < n) (h1 : n ≤ 1000) {H : Heap} {Q : V → Heap → Prop} (hq : Q (.ref H.length 0 0 0) (H ++ [.arr 1 false []])) : ACalls prog 137 [.slx (some true) [], .d (.int .i64 n)] H Q := by
  refine ⟨⟨f137, rfl, rfl, rfl⟩, fun g w cvs hr hv => ?_⟩
  obtain ⟨i0, z, k1, k2, k3, k4, k5⟩ : ∃ i z, prog.info? (Go.Proofs.growI_ren.t 25) = some i ∧ i.zero = some z ∧ i.size = 1 ∧ i.bytes = 8 ∧ z.cells.size = 1 := ⟨_, _, rfl, rfl, rfl, rfl, rfl⟩
  have hcv : cvs.toArray = #[.slice none 0 0, .int .i64 n] := by
    simp only [VRs, VR, DR, DC] at hv
    obtain ⟨c, r, rfl, ⟨a, rfl, hn, _, _⟩, c2, r2, rfl, hc2, rfl⟩ := hv
    have ha : a = none := (hn true rfl).2 rfl
    subst ha
    simp at hc2
    subst hc2
    rfl
  rw [hcv]
  have hc := Go.Proofs.Any8.slices_Grow_grow Go.Proofs.growI i0 z k1 k2 (by omega) none 0 0 n [] w (Nat.le_refl _) (by omega) (by rw [k4]; omega) (by omega) (by simp) (fun _ => rfl) (fun a h => by cases h)
  refine CallsIn.mono (callsIn_wide.2 hc) ?_
  rintro e w' ⟨rfl, rfl⟩
  obtain ⟨d1, d2, d3⟩ := same_heap (w := w) (w' := w.drew) (g := g) (H := H) rfl rfl rfl rfl hr
  obtain ⟨r1, r2, r3, r4⟩ := new_row (l := []) (vs := (#[].toList.toArray ++ Builtin.zeroCells z.cells (0 + n - 0) ++ Builtin.zeroCells z.cells (grownCap w (0 + n) 0 (Go.Proofs.growI_ren.t 25) - (0 + n)))) d1 (Go.Proofs.growI_ren.t 25) (es := 1) ⟨by simp, fun i x hx => by simp at hx⟩
  refine ⟨_, _, _, _, rfl, hq, r4 (grownCap w (0 + n) 0 (Go.Proofs.growI_ren.t 25)) (Nat.zero_le _) ?_, r1, ?_, ?_⟩
  · simp [Builtin.zeroCells, k5]; omega
  · exact d2.trans r2
  · exact d3.trans r3

/-- Two lists joined. -/
def catN (l : List Int) (i : Nat) : Nat := if i = 0 then 0 else if i = 1 then 1 else l.length + 1
def catD (n : Int) (l : List Int) (i : Nat) : List D := if i = 0 then [] else if i = 1 then [.int .i64 n] else (n :: l).map (.int .i64)

theorem c119r (n : Int) (l : List Int) (hl : l.length ≤ 100) : PCr prog 119 [.d (.sl [.sl [.int .i64 n], .sl (l.map (.int .i64))])] [.arr 1 false ((n :: l).map (.int .i64))] (.ref 0 (l.length + 1) 0 (l.length + 1)) := by
  refine PCr.of_body tt_ok (fn := f119) (rs := [.tmp 2]) 1 rfl rfl rfl rfl rfl rfl ?_
  have hsz := sized_ints l
  have hs1 : sized 1 [D.int .i64 n] = true := rfl
  refine AWP.stepN 3 [(3, .d (.int .i64 ((l.length + 1 : Nat) : Int))), (0, .d (.sl [.sl [.int .i64 n], .sl (l.map (.int .i64))]))] [] (fun _ => false) tt_ok (fun _ h => nomatch h) (Nat.zero_le _) rfl ?_ ?_
  · simp only [go_sem]
    refine ALoop.by (S := Nat) (fun i => [(11, .d (.int .i64 i)), (10, .d (.int .i64 2)), (9, .d (.sl [.sl [.int .i64 n], .sl (l.map (.int .i64))])), (3, .d (.int .i64 (catN l i))), (0, .d (.sl [.sl [.int .i64 n], .sl (l.map (.int .i64))]))]) (fun _ => []) (fun i => 2 - i) (fun i => i ≤ 2) 0 (Nat.zero_le _) (fun _ h => nomatch h) (by omega) ?_ ?_
    · exact ForgetTo.same' (Nat.zero_le _) (by simp [EWe, Env.look, catN]) rfl
    rintro i hi hn
    refine AWP.run (fun _ => false) tt_ok (fun _ h => nomatch h) (Nat.zero_le _) rfl ?_
    have h3 : i = 0 ∨ i = 1 ∨ i = 2 := by omega
    have w1 : IntKind.i64.wrap (0 + 1) = 1 := by decide
    have w2 : IntKind.i64.wrap (1 + 1) = 2 := by decide
    have w3 : IntKind.i64.wrap (1 + (l.length : Int)) = ((l.length + 1 : Nat) : Int) := by rw [w64 (by omega) (by omega)]; omega
    have d3 : decide (((l.length + 1 : Nat) : Int) < 0) = false := by simp only [decide_eq_false_iff_not]; omega
    have ix0 : idx? [D.sl [.int .i64 n], .sl (l.map (.int .i64))] ((0 : Nat) : Int) = some (.sl [.int .i64 n]) := rfl
    have ix1 : idx? [D.sl [.int .i64 n], .sl (l.map (.int .i64))] ((1 : Nat) : Int) = some (.sl (l.map (.int .i64))) := rfl
    rcases h3 with rfl | rfl | rfl
    · simp only [go_sem, catN, ix0, if_true, w1]
      refine ⟨1, by omega, by omega, ForgetTo.same' (Nat.zero_le _) (by simp [EWe, Env.look, catN]) rfl⟩
    · simp only [go_sem, catN, ix1, if_true, w2, List.length_map, w3, d3]
      refine ⟨2, by omega, by omega, ForgetTo.same' (Nat.zero_le _) (by simp [EWe, Env.look, catN]) rfl⟩
    · simp only [go_sem, catN]
      exact ForgetTo.same' (Nat.zero_le _) (by simp [EWe, Env.look]) rfl
  · refine AWP.runS (fun _ => false) tt_ok (fun _ h => nomatch h) (Nat.zero_le _) rfl ?_
    simp only [go_sem]
    refine ACallV.of rfl (c137 (n := l.length + 1) (by omega) (by omega) ?_)
    simp only [go_sem]
    refine ALoop.by (S := Nat) (fun i => [(27, .d (.int .i64 i)), (26, .d (.int .i64 2)), (25, .d (.sl [.sl [.int .i64 n], .sl (l.map (.int .i64))])), (6, .ref 0 (catN l i) 0 (catN l i))]) (fun i => [.arr 1 false (catD n l i)]) (fun i => 2 - i) (fun i => i ≤ 2) 0 (Nat.zero_le _) (fun _ h => nomatch h) (by omega) ?_ ?_
    · exact ForgetTo.same' (Nat.zero_le _) (by simp [EWe, Env.look, catN]) (by simp [catD])
    rintro i hi hn
    refine AWP.run (fun _ => false) tt_ok (fun _ h => nomatch h) (Nat.zero_le _) rfl ?_
    have h3 : i = 0 ∨ i = 1 ∨ i = 2 := by omega
    have w1 : IntKind.i64.wrap (0 + 1) = 1 := by decide
    have w2 : IntKind.i64.wrap (1 + 1) = 2 := by decide
    have ix0 : idx? [D.sl [.int .i64 n], .sl (l.map (.int .i64))] ((0 : Nat) : Int) = some (.sl [.int .i64 n]) := rfl
    have ix1 : idx? [D.sl [.int .i64 n], .sl (l.map (.int .i64))] ((1 : Nat) : Int) = some (.sl (l.map (.int .i64))) := rfl
    rcases h3 with rfl | rfl | rfl
    · simp only [go_sem, catN, catD, ix0, if_true, w1, hs1]
      refine ⟨1, by omega, by omega, ForgetTo.same' (Nat.zero_le _) (by simp [EWe, Env.look, catN]) (by simp [catD])⟩
    · simp only [go_sem, catN, catD, ix1, if_true, w2, List.length_map, hsz, show decide (1 + l.length ≤ 4294967296) = true by simp only [decide_eq_true_eq]; omega]
      refine ⟨2, by omega, by omega, ForgetTo.same' (Nat.zero_le _) (by simp [EWe, Env.look, catN, Nat.add_comm]) (by simp [catD])⟩
    · simp only [go_sem, catN, catD]

theorem c119 (n : Int) (l : List Int) (hl : l.length ≤ 100) : PC prog 119 [.d (.sl [.sl [.int .i64 n], .sl (l.map (.int .i64))])] (.d (.sl ((n :: l).map (.int .i64)))) := by
  refine PC.of_r (c119r n l hl) ?_
  have : (l.map (D.int .i64)).take l.length = l.map (.int .i64) := List.take_of_length_le (by simp)
  simp [pubV, this]
end Go.Aw
end

section
set_option maxRecDepth 100000
namespace Go.Aw
open Go Go.Proofs.Try

structure Wgh where
  slip : Int
  feet : Int
  used : Sp
deriving DecidableEq

def Wgh.d (a : Wgh) : D := .agg [.int .i64 a.slip, .int .i64 a.feet, .int .i64 a.used.lo, .int .i64 a.used.hi]

theorem enc_wgh : Enc 4 (Tt 74) Wgh.d := fun x => ⟨rfl, rfl⟩

def badW (w : Works) (a : Wgh) : Bool := !within 0 ((w.slips.length : Int) - 1) [a.slip] || !within 1 200 [a.feet] || !(within 0 20000 [a.used.lo, a.used.hi] && decide (a.used.lo ≤ a.used.hi))

theorem c116 {w : Works} (hw : w.slips.length ≤ 4294967296) {a : Wgh} {i : Nat} {H : Heap} {Q : V → Heap → Prop} (h0 : H[i]? = some (wrkB w)) (hbb : BBs H.length H) (h : Q (.d (.bool (badW w a))) H) :
    ACalls prog 116 [.d a.d, .ptr i 0] H Q := by
  have hi := lt_of_getElem? h0
  simp only [wrkB] at h0
  have h0' : ∀ Y : Heap, (H ++ Y)[i]? = some (.cells [.d (.sl (w.slips.map Slip.d)), .d (.int .i64 w.hides), .d (.int .i64 w.drops)]) := fun Y => by rw [List.getElem?_append_left hi]; exact h0
  refine ACalls.run (fun _ => false) tt_ok (fn := f116) (rs := [.tmp 3]) rfl rfl rfl rfl rfl rfl rfl ?_
  have w1 : IntKind.i64.wrap ((w.slips.length : Int) - 1) = (w.slips.length : Int) - 1 := w64 (by omega) (by omega)
  have ht : ∀ Y : Blk, (H ++ [Y]).take H.length = H := fun Y => by rw [List.take_append_of_le_length (Nat.le_refl _), List.take_length]
  simp only [go_sem, Wgh.d, ap0, h0', List.length_map, w1]
  refine (c68 0 ((w.slips.length : Int) - 1) [a.slip] (by simp)).call rfl rfl rfl ?_
  cases h1 : within 0 ((w.slips.length : Int) - 1) [a.slip] with
  | false =>
    have hb : badW w a = true := by rw [badW, h1]; rfl
    simp only [go_sem]
    rw [hb] at h
    rw [ht]
    exact ⟨.inr hbb, h⟩
  | true =>
  simp only [go_sem, h0', ap0]
  refine (c68 1 200 [a.feet] (by simp)).call rfl rfl rfl ?_
  cases h2 : within 1 200 [a.feet] with
  | false =>
    have hb : badW w a = true := by rw [badW, h1, h2]; rfl
    simp only [go_sem]
    rw [hb] at h
    rw [ht]
    exact ⟨.inr hbb, h⟩
  | true =>
  have hb : badW w a = !(within 0 20000 [a.used.lo, a.used.hi] && decide (a.used.lo ≤ a.used.hi)) := by rw [badW, h1, h2]; rfl
  simp only [go_sem, h0', ap0]
  refine (c67 0 20000 a.used).call rfl rfl rfl ?_
  rw [hb] at h
  simp only [go_sem]
  rw [ht]
  exact ⟨.inr hbb, h⟩

structure Wghs where
  w : Works
  l : List Wgh
  but : Int

def Wghs.d (y : Wghs) : D := .agg [.sl (y.w.slips.map Slip.d), .int .i64 y.w.hides, .int .i64 y.w.drops, .sl (y.l.map Wgh.d), .int .i64 y.but]

def wghE (w : Works) (l : List Wgh) : Int := if checkP w = 0 then (if l.length > 6 then 5 else if l.any (badW w) = true then 2 else 0) else checkP w

def wgh0 : Wghs := ⟨⟨[], 0, 0⟩, [], 0⟩
def wghP (w : Works) (l : List Wgh) : Wghs := if wghE w l = 0 then ⟨w, l, 0⟩ else wgh0

theorem c93 (w : Works) (l : List Wgh) (hw : w.slips.length ≤ 4294967296) (hl : l.length ≤ 4294967296) : PC prog 93 [.d w.d, .d (.sl (l.map Wgh.d))] (.tup [.d (wghP w l).d, .d (.int .i64 (wghE w l))]) := by
  refine PC.run (fun _ => false) tt_ok (fn := f93) (rs := [.cell 4 170, .tmp 5]) rfl rfl rfl rfl rfl rfl rfl ?_
  simp only [go_sem, Works.d]
  refine (c70 w hw).call rfl rfl rfl ?_
  simp only [go_sem, Works.d]
  refine Br_split (fun h1 => ?_) (fun h1 => ?_) <;> simp only [go_sem, h1]
  · have hc : ¬ checkP w = 0 := by simpa using h1
    have hE : wghE w l = checkP w := by rw [wghE, if_neg hc]
    simp only [go_sem, wghP, hE, if_neg hc]
    rfl
  have hc : checkP w = 0 := by simpa using h1
  simp only [go_sem, List.length_map]
  refine Br_split (fun h2 => ?_) (fun h2 => ?_) <;> simp only [go_sem, h2]
  · have h2' : l.length > 6 := by simp only [decide_eq_true_eq] at h2; omega
    have hE : wghE w l = 5 := by rw [wghE, if_pos hc, if_pos h2']
    simp only [wghP, hE]
    rfl
  have h2' : ¬ l.length > 6 := by simp only [decide_eq_false_iff_not] at h2; omega
  refine ACallV.of rfl (c117 enc_wgh l (by omega) 116 [] [.ptr 2 0] (badW w) (fun x hx Q h => ACallV.of rfl (c116 hw rfl (by simp [BBs, BB, VBs, VB]) h)) ?_)
  simp only [go_sem]
  refine Br_split (fun h3 => ?_) (fun h3 => ?_) <;> simp only [go_sem, h3]
  · have hE : wghE w l = 2 := by rw [wghE, if_pos hc, if_neg h2', if_pos h3]
    simp only [wghP, hE]
    rfl
  have hE : wghE w l = 0 := by rw [wghE, if_pos hc, if_neg h2', if_neg (by rw [h3]; simp)]
  simp only [go_sem, wghP, hE, if_true, Wghs.d]
end Go.Aw
end
