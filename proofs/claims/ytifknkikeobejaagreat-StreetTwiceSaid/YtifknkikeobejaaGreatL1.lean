/- The types of the program, as the evaluator sees them. Names, changes and towns: the plain model; sorting by insertion. Small functions: ContainsFunc, within, isName, isChange, isHour. What stands twice in a list; Check. Check. Values, Collect: a list handed to yield, and gathered again. AppendSeq, Collect of changes. Changes sorted by their hours. Small numbers' lengths; integers sorted. Compact. Clone; what stands twice, as a row. The book of a town: the program's pages. The plain law of the book: its pages are how all streets are called; its first clash is the first one. open, Clash, names of an hour. Name, Who. The pages of a book, each with its hours, handed to yield. -/
import Derived.Test.YtifknkikeobejaaGreatA7
import Derived.Test.YtifknkikeobejaaGreatProg
import Derived.KernelRfl
set_option linter.unusedSimpArgs false
set_option linter.unusedVariables false

section
set_option maxRecDepth 100000
namespace Go.Aw
open Go

def tlook : List (Nat × Ty) → Nat → Ty
  | [], _ => .no
  | (k, x) :: r, t => if k = t then x else tlook r t

def tgood (P : Program) : List (Nat × Ty) → Prop
  | [] => True
  | (k, x) :: r => x = tyOf P k ∧ tgood P r

theorem tlook_ok {P : Program} : ∀ (l : List (Nat × Ty)), tgood P l → TOK P (tlook l)
  | [], _, _ => trivial
  | (k, x) :: r, h, t => by
    simp only [tlook]
    split
    · rename_i e; subst e; rw [h.1]; exact tok P _
    · exact tlook_ok r h.2 t

def ttab : List (Nat × Ty) := [
  (1, Ty.sc D.nilf),
  (2, Ty.sc (D.int IntKind.i64 0)),
  (3, Ty.sc (D.int IntKind.i64 0)),
  (4, Ty.sc (D.bool false)),
  (5, Ty.sc (D.int IntKind.u8 0)),
  (6, Ty.sc (D.int IntKind.u8 0)),
  (7, Ty.st 4 [(0, 1, 2), (1, 1, 3), (2, 1, 4), (3, 1, 6)] [D.int IntKind.i64 0, D.int IntKind.i64 0, D.bool false, D.int IntKind.u8 0] true),
  (8, Ty.st 4 [(0, 1, 2), (1, 1, 3), (2, 1, 4), (3, 1, 6)] [D.int IntKind.i64 0, D.int IntKind.i64 0, D.bool false, D.int IntKind.u8 0] true),
  (9, Ty.sc (D.str ⟨#[]⟩)),
  (10, Ty.sc (D.str ⟨#[]⟩)),
  (11, Ty.sc (D.str ⟨#[]⟩)),
  (12, Ty.sc (D.int IntKind.u64 0)),
  (13, Ty.st 2 [(0, 1, 9), (1, 1, 12)] [D.str ⟨#[]⟩, D.int IntKind.u64 0] false),
  (14, Ty.st 2 [(0, 1, 9), (1, 1, 12)] [D.str ⟨#[]⟩, D.int IntKind.u64 0] false),
  (15, Ty.sc D.nilp),
  (16, Ty.sc D.nilp),
  (17, Ty.sc D.nilp),
  (18, Ty.st 1 [(0, 1, 17)] [D.nilp] false),
  (19, Ty.st 1 [(0, 1, 17)] [D.nilp] false),
  (21, Ty.sc (D.int IntKind.i32 0)),
  (22, Ty.sl 1 (D.str ⟨#[]⟩)),
  (23, Ty.sl 3 (D.agg [D.int IntKind.i64 0, D.int IntKind.i64 0, D.str ⟨#[]⟩])),
  (24, Ty.st 2 [(0, 1, 22), (1, 1, 23)] [D.sl [], D.sl []] false),
  (25, Ty.st 2 [(0, 1, 22), (1, 1, 23)] [D.sl [], D.sl []] false),
  (26, Ty.sc D.nilf),
  (27, Ty.sc D.nilf),
  (28, Ty.sc D.nilf),
  (29, Ty.sc (D.int IntKind.i64 0)),
  (30, Ty.sc D.nilf),
  (31, Ty.sl 1 (D.int IntKind.i64 0)),
  (33, Ty.sc D.nilf),
  (34, Ty.sc D.nilf),
  (36, Ty.sc D.nilf),
  (37, Ty.sc D.nilf),
  (38, Ty.sc D.nilf),
  (39, Ty.ar 2 1 3 [D.int IntKind.i64 0, D.int IntKind.i64 0] false),
  (41, Ty.sc D.nilf),
  (43, Ty.sc D.nilf),
  (44, Ty.sc D.nilf),
  (45, Ty.sc D.nilf),
  (46, Ty.sc D.nilf),
  (47, Ty.sc D.nilf),
  (48, Ty.sl 3 (D.agg [D.str ⟨#[]⟩, D.int IntKind.i64 0, D.int IntKind.i64 0])),
  (50, Ty.sc D.nilf),
  (52, Ty.sc D.nilf),
  (53, Ty.sc D.nilf),
  (54, Ty.sc D.nilf),
  (55, Ty.sc D.nilf),
  (56, Ty.sc D.nilf),
  (57, Ty.sc D.nilf),
  (58, Ty.sl 3 (D.agg [D.int IntKind.i64 0, D.int IntKind.i64 0, D.str ⟨#[]⟩])),
  (59, Ty.st 3 [(0, 1, 3), (1, 1, 3), (2, 1, 9)] [D.int IntKind.i64 0, D.int IntKind.i64 0, D.str ⟨#[]⟩] true),
  (60, Ty.st 3 [(0, 1, 3), (1, 1, 3), (2, 1, 9)] [D.int IntKind.i64 0, D.int IntKind.i64 0, D.str ⟨#[]⟩] true),
  (61, Ty.st 3 [(0, 1, 3), (1, 1, 3), (2, 1, 9)] [D.int IntKind.i64 0, D.int IntKind.i64 0, D.str ⟨#[]⟩] true),
  (62, Ty.st 3 [(0, 1, 3), (1, 1, 3), (2, 1, 9)] [D.int IntKind.i64 0, D.int IntKind.i64 0, D.str ⟨#[]⟩] true),
  (64, Ty.sc D.nilf),
  (66, Ty.sc D.nilf),
  (67, Ty.sc D.nilf),
  (69, Ty.sc D.nilf),
  (70, Ty.sc D.nilf),
  (71, Ty.sc D.nilf),
  (72, Ty.sc D.nilf),
  (73, Ty.sc D.nilf),
  (74, Ty.st 2 [(0, 1, 3), (1, 1, 3)] [D.int IntKind.i64 0, D.int IntKind.i64 0] true),
  (75, Ty.st 2 [(0, 1, 3), (1, 1, 3)] [D.int IntKind.i64 0, D.int IntKind.i64 0] true),
  (76, Ty.st 3 [(0, 2, 75), (2, 1, 3)] [D.int IntKind.i64 0, D.int IntKind.i64 0, D.int IntKind.i64 0] true),
  (77, Ty.st 3 [(0, 2, 75), (2, 1, 3)] [D.int IntKind.i64 0, D.int IntKind.i64 0, D.int IntKind.i64 0] true),
  (79, Ty.sc D.nilf),
  (81, Ty.sc D.nilf),
  (83, Ty.sc D.nilf),
  (85, Ty.sc D.nilf),
  (86, Ty.sc D.nilf),
  (87, Ty.sl 2 (D.agg [D.int IntKind.i64 0, D.str ⟨#[]⟩])),
  (88, Ty.st 2 [(0, 1, 3), (1, 1, 9)] [D.int IntKind.i64 0, D.str ⟨#[]⟩] true),
  (89, Ty.st 2 [(0, 1, 3), (1, 1, 9)] [D.int IntKind.i64 0, D.str ⟨#[]⟩] true),
  (90, Ty.sl 2 (D.agg [D.int IntKind.i64 0, D.int IntKind.i64 0])),
  (92, Ty.sc D.nilf),
  (93, Ty.sc D.nilf),
  (94, Ty.sc D.nilf),
  (95, Ty.sc D.nilf),
  (96, Ty.sl 1 (D.sl [])),
  (97, Ty.sc D.nilf),
  (98, Ty.sc D.nilf),
  (99, Ty.sc D.nilf),
  (100, Ty.sc D.nilf),
  (101, Ty.sl 3 (D.agg [D.int IntKind.u8 0, D.int IntKind.u8 0, D.int IntKind.u8 0])),
  (102, Ty.st 3 [(0, 1, 5), (1, 1, 101), (2, 1, 5)] [D.int IntKind.u8 0, D.sl [], D.int IntKind.u8 0] false),
  (103, Ty.st 3 [(0, 1, 5), (1, 1, 101), (2, 1, 5)] [D.int IntKind.u8 0, D.sl [], D.int IntKind.u8 0] false),
  (104, Ty.sc (D.int IntKind.u16 0)),
  (106, Ty.sc D.nilf),
  (107, Ty.sc D.nilf),
  (108, Ty.st 3 [(0, 1, 9), (1, 2, 75)] [D.str ⟨#[]⟩, D.int IntKind.i64 0, D.int IntKind.i64 0] true),
  (109, Ty.st 3 [(0, 1, 9), (1, 2, 75)] [D.str ⟨#[]⟩, D.int IntKind.i64 0, D.int IntKind.i64 0] true),
  (110, Ty.sc D.nilf),
  (111, Ty.sc D.nilf),
  (112, Ty.sc D.nilf),
  (113, Ty.sc D.nilf),
  (114, Ty.sl 4 (D.agg [D.int IntKind.u8 0, D.int IntKind.u8 0, D.int IntKind.u8 0, D.int IntKind.u8 0])),
  (115, Ty.ar 3 1 5 [D.int IntKind.u8 0, D.int IntKind.u8 0, D.int IntKind.u8 0] false),
  (116, Ty.ar 4 1 5 [D.int IntKind.u8 0, D.int IntKind.u8 0, D.int IntKind.u8 0, D.int IntKind.u8 0] false),
  (117, Ty.sc D.nilf),
  (118, Ty.sc D.nilf),
  (119, Ty.sc D.nilf),
  (120, Ty.sl 2 (D.agg [D.int IntKind.u8 0, D.int IntKind.u8 0])),
  (121, Ty.ar 2 1 5 [D.int IntKind.u8 0, D.int IntKind.u8 0] false),
  (122, Ty.sl 1 (D.int IntKind.u8 0)),
  (123, Ty.sc D.nilf),
  (124, Ty.sc D.nilf),
  (125, Ty.sc D.nilf),
  (126, Ty.sc D.nilf),
  (127, Ty.sc D.nilf),
  (128, Ty.sc D.nilf),
  (129, Ty.sc D.nilf),
  (130, Ty.sc D.nilf),
  (131, Ty.sc D.nilf),
  (132, Ty.sc D.nilf),
  (133, Ty.sc D.nilf),
  (134, Ty.sc D.nilf),
  (135, Ty.sl 2 (D.agg [D.int IntKind.i64 0, D.sl []])),
  (136, Ty.st 3 [(0, 2, 25), (2, 1, 135)] [D.sl [], D.sl [], D.sl []] false),
  (137, Ty.st 3 [(0, 2, 25), (2, 1, 135)] [D.sl [], D.sl [], D.sl []] false),
  (139, Ty.sc D.nilf),
  (140, Ty.sc D.nilf),
  (142, Ty.sc D.nilf),
  (143, Ty.sc D.nilf),
  (144, Ty.sc D.nilf),
  (145, Ty.sc D.nilf),
  (146, Ty.sc D.nilf),
  (147, Ty.mp (D.str ⟨#[]⟩) (D.bool false)),
  (148, Ty.sc D.nilf),
  (149, Ty.sc D.nilf),
  (150, Ty.sc D.nilf),
  (151, Ty.sc D.nilf),
  (152, Ty.sc D.nilf),
  (153, Ty.sc D.nilf),
  (154, Ty.sc D.nilf),
  (155, Ty.sc D.nilf),
  (156, Ty.sl 1 (D.bool false)),
  (157, Ty.sc D.nilf),
  (158, Ty.st 4 [(0, 3, 137), (3, 1, 87)] [D.sl [], D.sl [], D.sl [], D.sl []] false),
  (159, Ty.st 4 [(0, 3, 137), (3, 1, 87)] [D.sl [], D.sl [], D.sl [], D.sl []] false),
  (161, Ty.sc D.nilf),
  (162, Ty.sc D.nilf),
  (163, Ty.sc D.nilf),
  (164, Ty.sc (D.int IntKind.u64 0)),
  (165, Ty.sc D.nilf),
  (166, Ty.sc D.nilf),
  (167, Ty.sc D.nilf),
  (168, Ty.sc D.nilf),
  (169, Ty.mp (D.str ⟨#[]⟩) (D.int IntKind.i64 0)),
  (170, Ty.sc D.nilf),
  (171, Ty.sc D.nilf),
  (172, Ty.sc D.nilf),
  (173, Ty.sc D.nilf),
  (174, Ty.sc D.nilf),
  (175, Ty.sc D.nilf),
  (176, Ty.sc D.nilf),
  (177, Ty.st 2 [(0, 1, 3), (1, 1, 22)] [D.int IntKind.i64 0, D.sl []] false),
  (178, Ty.st 2 [(0, 1, 3), (1, 1, 22)] [D.int IntKind.i64 0, D.sl []] false),
  (179, Ty.sc D.nilf),
  (180, Ty.sc D.nilf),
  (182, Ty.sc D.nilf),
  (183, Ty.sc D.nilf),
  (184, Ty.sc D.nilf),
  (185, Ty.sc D.nilf),
  (186, Ty.sc D.nilf),
  (187, Ty.sc D.nilf),
  (188, Ty.sc D.nilf),
  (189, Ty.sc D.nilf),
  (190, Ty.sc D.nilf),
  (191, Ty.ar 11 1 3 [D.int IntKind.i64 0, D.int IntKind.i64 0, D.int IntKind.i64 0, D.int IntKind.i64 0, D.int IntKind.i64 0, D.int IntKind.i64 0, D.int IntKind.i64 0, D.int IntKind.i64 0, D.int IntKind.i64 0, D.int IntKind.i64 0, D.int IntKind.i64 0] false),
  (192, Ty.ar 11 11 191 [D.int IntKind.i64 0, D.int IntKind.i64 0, D.int IntKind.i64 0, D.int IntKind.i64 0, D.int IntKind.i64 0, D.int IntKind.i64 0, D.int IntKind.i64 0, D.int IntKind.i64 0, D.int IntKind.i64 0, D.int IntKind.i64 0, D.int IntKind.i64 0, D.int IntKind.i64 0, D.int IntKind.i64 0, D.int IntKind.i64 0, D.int IntKind.i64 0, D.int IntKind.i64 0, D.int IntKind.i64 0, D.int IntKind.i64 0, D.int IntKind.i64 0, D.int IntKind.i64 0, D.int IntKind.i64 0, D.int IntKind.i64 0, D.int IntKind.i64 0, D.int IntKind.i64 0, D.int IntKind.i64 0, D.int IntKind.i64 0, D.int IntKind.i64 0, D.int IntKind.i64 0, D.int IntKind.i64 0, D.int IntKind.i64 0, D.int IntKind.i64 0, D.int IntKind.i64 0, D.int IntKind.i64 0, D.int IntKind.i64 0, D.int IntKind.i64 0, D.int IntKind.i64 0, D.int IntKind.i64 0, D.int IntKind.i64 0, D.int IntKind.i64 0, D.int IntKind.i64 0, D.int IntKind.i64 0, D.int IntKind.i64 0, D.int IntKind.i64 0, D.int IntKind.i64 0, D.int IntKind.i64 0, D.int IntKind.i64 0, D.int IntKind.i64 0, D.int IntKind.i64 0, D.int IntKind.i64 0, D.int IntKind.i64 0, D.int IntKind.i64 0, D.int IntKind.i64 0, D.int IntKind.i64 0, D.int IntKind.i64 0, D.int IntKind.i64 0, D.int IntKind.i64 0, D.int IntKind.i64 0, D.int IntKind.i64 0, D.int IntKind.i64 0, D.int IntKind.i64 0, D.int IntKind.i64 0, D.int IntKind.i64 0, D.int IntKind.i64 0, D.int IntKind.i64 0, D.int IntKind.i64 0, D.int IntKind.i64 0, D.int IntKind.i64 0, D.int IntKind.i64 0, D.int IntKind.i64 0, D.int IntKind.i64 0, D.int IntKind.i64 0, D.int IntKind.i64 0, D.int IntKind.i64 0, D.int IntKind.i64 0, D.int IntKind.i64 0, D.int IntKind.i64 0, D.int IntKind.i64 0, D.int IntKind.i64 0, D.int IntKind.i64 0, D.int IntKind.i64 0, D.int IntKind.i64 0, D.int IntKind.i64 0, D.int IntKind.i64 0, D.int IntKind.i64 0, D.int IntKind.i64 0, D.int IntKind.i64 0, D.int IntKind.i64 0, D.int IntKind.i64 0, D.int IntKind.i64 0, D.int IntKind.i64 0, D.int IntKind.i64 0, D.int IntKind.i64 0, D.int IntKind.i64 0, D.int IntKind.i64 0, D.int IntKind.i64 0, D.int IntKind.i64 0, D.int IntKind.i64 0, D.int IntKind.i64 0, D.int IntKind.i64 0, D.int IntKind.i64 0, D.int IntKind.i64 0, D.int IntKind.i64 0, D.int IntKind.i64 0, D.int IntKind.i64 0, D.int IntKind.i64 0, D.int IntKind.i64 0, D.int IntKind.i64 0, D.int IntKind.i64 0, D.int IntKind.i64 0, D.int IntKind.i64 0, D.int IntKind.i64 0, D.int IntKind.i64 0, D.int IntKind.i64 0, D.int IntKind.i64 0, D.int IntKind.i64 0, D.int IntKind.i64 0, D.int IntKind.i64 0, D.int IntKind.i64 0, D.int IntKind.i64 0, D.int IntKind.i64 0, D.int IntKind.i64 0] false),
  (193, Ty.sc D.nilf),
  (194, Ty.sc D.nilf),
  (195, Ty.sc D.nilf),
  (196, Ty.sc D.nilf),
  (197, Ty.mp (D.int IntKind.i64 0) (D.int IntKind.i64 0)),
  (198, Ty.sc D.nilf),
  (199, Ty.sc D.nilf),
  (200, Ty.sc D.nilf),
  (201, Ty.sc D.nilf),
  (202, Ty.sc D.nilf),
  (203, Ty.sc D.nilf),
  (204, Ty.sc D.nilf),
  (205, Ty.sc D.nilf),
  (206, Ty.sc D.nilf),
  (207, Ty.sc (D.int IntKind.i64 0)),
  (209, Ty.sc D.nilf),
  (210, Ty.sc D.nilf),
  (211, Ty.sc D.nilf),
  (212, Ty.sc D.nilf),
  (213, Ty.sc D.nilf),
  (214, Ty.sc D.nilf),
  (215, Ty.sc (D.int IntKind.u32 0)),
  (216, Ty.sc D.nilf),
  (217, Ty.sc (D.int IntKind.u64 0)),
  (218, Ty.sc D.nilf),
  (219, Ty.sc D.nilf),
  (220, Ty.sc D.nilf),
  (221, Ty.sc D.nilf),
  (222, Ty.sc D.nilf),
  (223, Ty.sc D.nilf),
  (224, Ty.sc D.nilf),
  (225, Ty.sc (D.int IntKind.u64 0)),
  (226, Ty.sc D.nilf),
  (227, Ty.sc D.nilf),
  (228, Ty.sc D.nilf),
  (229, Ty.sc D.nilp),
  (230, Ty.sc D.nilf),
  (231, Ty.sc D.nilf),
  (232, Ty.sc D.nilf),
  (233, Ty.sc D.nilp),
  (235, Ty.sc D.nilf),
  (236, Ty.sc D.nilf),
  (237, Ty.sc D.nilf),
  (238, Ty.st 4 [(0, 1, 17), (1, 1, 17), (2, 1, 17), (3, 1, 9)] [D.nilp, D.nilp, D.nilp, D.str ⟨#[]⟩] false),
  (239, Ty.st 4 [(0, 1, 17), (1, 1, 17), (2, 1, 17), (3, 1, 9)] [D.nilp, D.nilp, D.nilp, D.str ⟨#[]⟩] false),
  (240, Ty.ar 0 1 16 [] false),
  (243, Ty.sc D.nilf),
  (244, Ty.sc (D.int IntKind.u8 0)),
  (245, Ty.sc (D.int IntKind.u8 0)),
  (246, Ty.sc D.nilf),
  (247, Ty.sc D.nilp),
  (248, Ty.sc (D.int IntKind.i32 0)),
  (249, Ty.sc (D.int IntKind.i32 0)),
  (250, Ty.st 11 [(0, 1, 12), (1, 1, 12), (2, 1, 215), (3, 1, 244), (4, 1, 5), (5, 1, 5), (6, 1, 245), (7, 1, 246), (8, 1, 247), (9, 1, 248), (10, 1, 249)] [D.int IntKind.u64 0, D.int IntKind.u64 0, D.int IntKind.u32 0, D.int IntKind.u8 0, D.int IntKind.u8 0, D.int IntKind.u8 0, D.int IntKind.u8 0, D.nilf, D.nilp, D.int IntKind.i32 0, D.int IntKind.i32 0] false),
  (251, Ty.st 11 [(0, 1, 12), (1, 1, 12), (2, 1, 215), (3, 1, 244), (4, 1, 5), (5, 1, 5), (6, 1, 245), (7, 1, 246), (8, 1, 247), (9, 1, 248), (10, 1, 249)] [D.int IntKind.u64 0, D.int IntKind.u64 0, D.int IntKind.u32 0, D.int IntKind.u8 0, D.int IntKind.u8 0, D.int IntKind.u8 0, D.int IntKind.u8 0, D.nilf, D.nilp, D.int IntKind.i32 0, D.int IntKind.i32 0] false)]

def Tt : Nat → Ty := tlook ttab

theorem tt_ok : TOK Go.Proofs.Tryz.prog Tt :=
  tlook_ok ttab ⟨by kernel_rfl, by kernel_rfl, by kernel_rfl, by kernel_rfl, by kernel_rfl, by kernel_rfl, by kernel_rfl, by kernel_rfl, by kernel_rfl, by kernel_rfl, by kernel_rfl, by kernel_rfl, by kernel_rfl, by kernel_rfl, by kernel_rfl, by kernel_rfl, by kernel_rfl, by kernel_rfl, by kernel_rfl, by kernel_rfl, by kernel_rfl, by kernel_rfl, by kernel_rfl, by kernel_rfl, by kernel_rfl, by kernel_rfl, by kernel_rfl, by kernel_rfl, by kernel_rfl, by kernel_rfl, by kernel_rfl, by kernel_rfl, by kernel_rfl, by kernel_rfl, by kernel_rfl, by kernel_rfl, by kernel_rfl, by kernel_rfl, by kernel_rfl, by kernel_rfl, by kernel_rfl, by kernel_rfl, by kernel_rfl, by kernel_rfl, by kernel_rfl, by kernel_rfl, by kernel_rfl, by kernel_rfl, by kernel_rfl, by kernel_rfl, by kernel_rfl, by kernel_rfl, by kernel_rfl, by kernel_rfl, by kernel_rfl, by kernel_rfl, by kernel_rfl, by kernel_rfl, by kernel_rfl, by kernel_rfl, by kernel_rfl, by kernel_rfl, by kernel_rfl, by kernel_rfl, by kernel_rfl, by kernel_rfl, by kernel_rfl, by kernel_rfl, by kernel_rfl, by kernel_rfl, by kernel_rfl, by kernel_rfl, by kernel_rfl, by kernel_rfl, by kernel_rfl, by kernel_rfl, by kernel_rfl, by kernel_rfl, by kernel_rfl, by kernel_rfl, by kernel_rfl, by kernel_rfl, by kernel_rfl, by kernel_rfl, by kernel_rfl, by kernel_rfl, by kernel_rfl, by kernel_rfl, by kernel_rfl, by kernel_rfl, by kernel_rfl, by kernel_rfl, by kernel_rfl, by kernel_rfl, by kernel_rfl, by kernel_rfl, by kernel_rfl, by kernel_rfl, by kernel_rfl, by kernel_rfl, by kernel_rfl, by kernel_rfl, by kernel_rfl, by kernel_rfl, by kernel_rfl, by kernel_rfl, by kernel_rfl, by kernel_rfl, by kernel_rfl, by kernel_rfl, by kernel_rfl, by kernel_rfl, by kernel_rfl, by kernel_rfl, by kernel_rfl, by kernel_rfl, by kernel_rfl, by kernel_rfl, by kernel_rfl, by kernel_rfl, by kernel_rfl, by kernel_rfl, by kernel_rfl, by kernel_rfl, by kernel_rfl, by kernel_rfl, by kernel_rfl, by kernel_rfl, by kernel_rfl, by kernel_rfl, by kernel_rfl, by kernel_rfl, by kernel_rfl, by kernel_rfl, by kernel_rfl, by kernel_rfl, by kernel_rfl, by kernel_rfl, by kernel_rfl, by kernel_rfl, by kernel_rfl, by kernel_rfl, by kernel_rfl, by kernel_rfl, by kernel_rfl, by kernel_rfl, by kernel_rfl, by kernel_rfl, by kernel_rfl, by kernel_rfl, by kernel_rfl, by kernel_rfl, by kernel_rfl, by kernel_rfl, by kernel_rfl, by kernel_rfl, by kernel_rfl, by kernel_rfl, by kernel_rfl, by kernel_rfl, by kernel_rfl, by kernel_rfl, by kernel_rfl, by kernel_rfl, by kernel_rfl, by kernel_rfl, by kernel_rfl, by kernel_rfl, by kernel_rfl, by kernel_rfl, by kernel_rfl, by kernel_rfl, by kernel_rfl, by kernel_rfl, by kernel_rfl, by kernel_rfl, by kernel_rfl, by kernel_rfl, by kernel_rfl, by kernel_rfl, by kernel_rfl, by kernel_rfl, by kernel_rfl, by kernel_rfl, by kernel_rfl, by kernel_rfl, by kernel_rfl, by kernel_rfl, by kernel_rfl, by kernel_rfl, by kernel_rfl, by kernel_rfl, by kernel_rfl, by kernel_rfl, by kernel_rfl, by kernel_rfl, by kernel_rfl, by kernel_rfl, by kernel_rfl, by kernel_rfl, by kernel_rfl, by kernel_rfl, by kernel_rfl, by kernel_rfl, by kernel_rfl, by kernel_rfl, by kernel_rfl, by kernel_rfl, by kernel_rfl, by kernel_rfl, by kernel_rfl, by kernel_rfl, by kernel_rfl, by kernel_rfl, by kernel_rfl, by kernel_rfl, by kernel_rfl, by kernel_rfl, by kernel_rfl, by kernel_rfl, by kernel_rfl, by kernel_rfl, by kernel_rfl, by kernel_rfl, by kernel_rfl, by kernel_rfl, by kernel_rfl, trivial⟩

@[go_sem] theorem tt_1 : Tt 1 = Ty.sc D.nilf := (Eq.refl _).trans rfl
@[go_sem] theorem tt_2 : Tt 2 = Ty.sc (D.int IntKind.i64 0) := (Eq.refl _).trans rfl
@[go_sem] theorem tt_3 : Tt 3 = Ty.sc (D.int IntKind.i64 0) := (Eq.refl _).trans rfl
@[go_sem] theorem tt_4 : Tt 4 = Ty.sc (D.bool false) := (Eq.refl _).trans rfl
@[go_sem] theorem tt_5 : Tt 5 = Ty.sc (D.int IntKind.u8 0) := (Eq.refl _).trans rfl
@[go_sem] theorem tt_6 : Tt 6 = Ty.sc (D.int IntKind.u8 0) := (Eq.refl _).trans rfl
@[go_sem] theorem tt_7 : Tt 7 = Ty.st 4 [(0, 1, 2), (1, 1, 3), (2, 1, 4), (3, 1, 6)] [D.int IntKind.i64 0, D.int IntKind.i64 0, D.bool false, D.int IntKind.u8 0] true := (Eq.refl _).trans rfl
@[go_sem] theorem tt_8 : Tt 8 = Ty.st 4 [(0, 1, 2), (1, 1, 3), (2, 1, 4), (3, 1, 6)] [D.int IntKind.i64 0, D.int IntKind.i64 0, D.bool false, D.int IntKind.u8 0] true := (Eq.refl _).trans rfl
@[go_sem] theorem tt_9 : Tt 9 = Ty.sc (D.str ⟨#[]⟩) := (Eq.refl _).trans rfl
@[go_sem] theorem tt_10 : Tt 10 = Ty.sc (D.str ⟨#[]⟩) := (Eq.refl _).trans rfl
@[go_sem] theorem tt_11 : Tt 11 = Ty.sc (D.str ⟨#[]⟩) := (Eq.refl _).trans rfl
@[go_sem] theorem tt_12 : Tt 12 = Ty.sc (D.int IntKind.u64 0) := (Eq.refl _).trans rfl
@[go_sem] theorem tt_13 : Tt 13 = Ty.st 2 [(0, 1, 9), (1, 1, 12)] [D.str ⟨#[]⟩, D.int IntKind.u64 0] false := (Eq.refl _).trans rfl
@[go_sem] theorem tt_14 : Tt 14 = Ty.st 2 [(0, 1, 9), (1, 1, 12)] [D.str ⟨#[]⟩, D.int IntKind.u64 0] false := (Eq.refl _).trans rfl
@[go_sem] theorem tt_15 : Tt 15 = Ty.sc D.nilp := (Eq.refl _).trans rfl
@[go_sem] theorem tt_16 : Tt 16 = Ty.sc D.nilp := (Eq.refl _).trans rfl
@[go_sem] theorem tt_17 : Tt 17 = Ty.sc D.nilp := (Eq.refl _).trans rfl
@[go_sem] theorem tt_18 : Tt 18 = Ty.st 1 [(0, 1, 17)] [D.nilp] false := (Eq.refl _).trans rfl
@[go_sem] theorem tt_19 : Tt 19 = Ty.st 1 [(0, 1, 17)] [D.nilp] false := (Eq.refl _).trans rfl
@[go_sem] theorem tt_21 : Tt 21 = Ty.sc (D.int IntKind.i32 0) := (Eq.refl _).trans rfl
@[go_sem] theorem tt_22 : Tt 22 = Ty.sl 1 (D.str ⟨#[]⟩) := (Eq.refl _).trans rfl
@[go_sem] theorem tt_23 : Tt 23 = Ty.sl 3 (D.agg [D.int IntKind.i64 0, D.int IntKind.i64 0, D.str ⟨#[]⟩]) := (Eq.refl _).trans rfl
@[go_sem] theorem tt_24 : Tt 24 = Ty.st 2 [(0, 1, 22), (1, 1, 23)] [D.sl [], D.sl []] false := (Eq.refl _).trans rfl
@[go_sem] theorem tt_25 : Tt 25 = Ty.st 2 [(0, 1, 22), (1, 1, 23)] [D.sl [], D.sl []] false := (Eq.refl _).trans rfl
@[go_sem] theorem tt_26 : Tt 26 = Ty.sc D.nilf := (Eq.refl _).trans rfl
@[go_sem] theorem tt_27 : Tt 27 = Ty.sc D.nilf := (Eq.refl _).trans rfl
@[go_sem] theorem tt_28 : Tt 28 = Ty.sc D.nilf := (Eq.refl _).trans rfl
@[go_sem] theorem tt_29 : Tt 29 = Ty.sc (D.int IntKind.i64 0) := (Eq.refl _).trans rfl
@[go_sem] theorem tt_30 : Tt 30 = Ty.sc D.nilf := (Eq.refl _).trans rfl
@[go_sem] theorem tt_31 : Tt 31 = Ty.sl 1 (D.int IntKind.i64 0) := (Eq.refl _).trans rfl
@[go_sem] theorem tt_33 : Tt 33 = Ty.sc D.nilf := (Eq.refl _).trans rfl
@[go_sem] theorem tt_34 : Tt 34 = Ty.sc D.nilf := (Eq.refl _).trans rfl
@[go_sem] theorem tt_36 : Tt 36 = Ty.sc D.nilf := (Eq.refl _).trans rfl
@[go_sem] theorem tt_37 : Tt 37 = Ty.sc D.nilf := (Eq.refl _).trans rfl
@[go_sem] theorem tt_38 : Tt 38 = Ty.sc D.nilf := (Eq.refl _).trans rfl
@[go_sem] theorem tt_39 : Tt 39 = Ty.ar 2 1 3 [D.int IntKind.i64 0, D.int IntKind.i64 0] false := (Eq.refl _).trans rfl
@[go_sem] theorem tt_41 : Tt 41 = Ty.sc D.nilf := (Eq.refl _).trans rfl
@[go_sem] theorem tt_43 : Tt 43 = Ty.sc D.nilf := (Eq.refl _).trans rfl
@[go_sem] theorem tt_44 : Tt 44 = Ty.sc D.nilf := (Eq.refl _).trans rfl
@[go_sem] theorem tt_45 : Tt 45 = Ty.sc D.nilf := (Eq.refl _).trans rfl
@[go_sem] theorem tt_46 : Tt 46 = Ty.sc D.nilf := (Eq.refl _).trans rfl
@[go_sem] theorem tt_47 : Tt 47 = Ty.sc D.nilf := (Eq.refl _).trans rfl
@[go_sem] theorem tt_48 : Tt 48 = Ty.sl 3 (D.agg [D.str ⟨#[]⟩, D.int IntKind.i64 0, D.int IntKind.i64 0]) := (Eq.refl _).trans rfl
@[go_sem] theorem tt_50 : Tt 50 = Ty.sc D.nilf := (Eq.refl _).trans rfl
@[go_sem] theorem tt_52 : Tt 52 = Ty.sc D.nilf := (Eq.refl _).trans rfl
@[go_sem] theorem tt_53 : Tt 53 = Ty.sc D.nilf := (Eq.refl _).trans rfl
@[go_sem] theorem tt_54 : Tt 54 = Ty.sc D.nilf := (Eq.refl _).trans rfl
@[go_sem] theorem tt_55 : Tt 55 = Ty.sc D.nilf := (Eq.refl _).trans rfl
@[go_sem] theorem tt_56 : Tt 56 = Ty.sc D.nilf := (Eq.refl _).trans rfl
@[go_sem] theorem tt_57 : Tt 57 = Ty.sc D.nilf := (Eq.refl _).trans rfl
@[go_sem] theorem tt_58 : Tt 58 = Ty.sl 3 (D.agg [D.int IntKind.i64 0, D.int IntKind.i64 0, D.str ⟨#[]⟩]) := (Eq.refl _).trans rfl
@[go_sem] theorem tt_59 : Tt 59 = Ty.st 3 [(0, 1, 3), (1, 1, 3), (2, 1, 9)] [D.int IntKind.i64 0, D.int IntKind.i64 0, D.str ⟨#[]⟩] true := (Eq.refl _).trans rfl
@[go_sem] theorem tt_60 : Tt 60 = Ty.st 3 [(0, 1, 3), (1, 1, 3), (2, 1, 9)] [D.int IntKind.i64 0, D.int IntKind.i64 0, D.str ⟨#[]⟩] true := (Eq.refl _).trans rfl
@[go_sem] theorem tt_61 : Tt 61 = Ty.st 3 [(0, 1, 3), (1, 1, 3), (2, 1, 9)] [D.int IntKind.i64 0, D.int IntKind.i64 0, D.str ⟨#[]⟩] true := (Eq.refl _).trans rfl
@[go_sem] theorem tt_62 : Tt 62 = Ty.st 3 [(0, 1, 3), (1, 1, 3), (2, 1, 9)] [D.int IntKind.i64 0, D.int IntKind.i64 0, D.str ⟨#[]⟩] true := (Eq.refl _).trans rfl
@[go_sem] theorem tt_64 : Tt 64 = Ty.sc D.nilf := (Eq.refl _).trans rfl
@[go_sem] theorem tt_66 : Tt 66 = Ty.sc D.nilf := (Eq.refl _).trans rfl
@[go_sem] theorem tt_67 : Tt 67 = Ty.sc D.nilf := (Eq.refl _).trans rfl
@[go_sem] theorem tt_69 : Tt 69 = Ty.sc D.nilf := (Eq.refl _).trans rfl
@[go_sem] theorem tt_70 : Tt 70 = Ty.sc D.nilf := (Eq.refl _).trans rfl
@[go_sem] theorem tt_71 : Tt 71 = Ty.sc D.nilf := (Eq.refl _).trans rfl
@[go_sem] theorem tt_72 : Tt 72 = Ty.sc D.nilf := (Eq.refl _).trans rfl
@[go_sem] theorem tt_73 : Tt 73 = Ty.sc D.nilf := (Eq.refl _).trans rfl
@[go_sem] theorem tt_74 : Tt 74 = Ty.st 2 [(0, 1, 3), (1, 1, 3)] [D.int IntKind.i64 0, D.int IntKind.i64 0] true := (Eq.refl _).trans rfl
@[go_sem] theorem tt_75 : Tt 75 = Ty.st 2 [(0, 1, 3), (1, 1, 3)] [D.int IntKind.i64 0, D.int IntKind.i64 0] true := (Eq.refl _).trans rfl
@[go_sem] theorem tt_76 : Tt 76 = Ty.st 3 [(0, 2, 75), (2, 1, 3)] [D.int IntKind.i64 0, D.int IntKind.i64 0, D.int IntKind.i64 0] true := (Eq.refl _).trans rfl
@[go_sem] theorem tt_77 : Tt 77 = Ty.st 3 [(0, 2, 75), (2, 1, 3)] [D.int IntKind.i64 0, D.int IntKind.i64 0, D.int IntKind.i64 0] true := (Eq.refl _).trans rfl
@[go_sem] theorem tt_79 : Tt 79 = Ty.sc D.nilf := (Eq.refl _).trans rfl
@[go_sem] theorem tt_81 : Tt 81 = Ty.sc D.nilf := (Eq.refl _).trans rfl
@[go_sem] theorem tt_83 : Tt 83 = Ty.sc D.nilf := (Eq.refl _).trans rfl
@[go_sem] theorem tt_85 : Tt 85 = Ty.sc D.nilf := (Eq.refl _).trans rfl
@[go_sem] theorem tt_86 : Tt 86 = Ty.sc D.nilf := (Eq.refl _).trans rfl
@[go_sem] theorem tt_87 : Tt 87 = Ty.sl 2 (D.agg [D.int IntKind.i64 0, D.str ⟨#[]⟩]) := (Eq.refl _).trans rfl
@[go_sem] theorem tt_88 : Tt 88 = Ty.st 2 [(0, 1, 3), (1, 1, 9)] [D.int IntKind.i64 0, D.str ⟨#[]⟩] true := (Eq.refl _).trans rfl
@[go_sem] theorem tt_89 : Tt 89 = Ty.st 2 [(0, 1, 3), (1, 1, 9)] [D.int IntKind.i64 0, D.str ⟨#[]⟩] true := (Eq.refl _).trans rfl
@[go_sem] theorem tt_90 : Tt 90 = Ty.sl 2 (D.agg [D.int IntKind.i64 0, D.int IntKind.i64 0]) := (Eq.refl _).trans rfl
@[go_sem] theorem tt_92 : Tt 92 = Ty.sc D.nilf := (Eq.refl _).trans rfl
@[go_sem] theorem tt_93 : Tt 93 = Ty.sc D.nilf := (Eq.refl _).trans rfl
@[go_sem] theorem tt_94 : Tt 94 = Ty.sc D.nilf := (Eq.refl _).trans rfl
@[go_sem] theorem tt_95 : Tt 95 = Ty.sc D.nilf := (Eq.refl _).trans rfl
@[go_sem] theorem tt_96 : Tt 96 = Ty.sl 1 (D.sl []) := (Eq.refl _).trans rfl
@[go_sem] theorem tt_97 : Tt 97 = Ty.sc D.nilf := (Eq.refl _).trans rfl
@[go_sem] theorem tt_98 : Tt 98 = Ty.sc D.nilf := (Eq.refl _).trans rfl
@[go_sem] theorem tt_99 : Tt 99 = Ty.sc D.nilf := (Eq.refl _).trans rfl
@[go_sem] theorem tt_100 : Tt 100 = Ty.sc D.nilf := (Eq.refl _).trans rfl
@[go_sem] theorem tt_101 : Tt 101 = Ty.sl 3 (D.agg [D.int IntKind.u8 0, D.int IntKind.u8 0, D.int IntKind.u8 0]) := (Eq.refl _).trans rfl
@[go_sem] theorem tt_102 : Tt 102 = Ty.st 3 [(0, 1, 5), (1, 1, 101), (2, 1, 5)] [D.int IntKind.u8 0, D.sl [], D.int IntKind.u8 0] false := (Eq.refl _).trans rfl
@[go_sem] theorem tt_103 : Tt 103 = Ty.st 3 [(0, 1, 5), (1, 1, 101), (2, 1, 5)] [D.int IntKind.u8 0, D.sl [], D.int IntKind.u8 0] false := (Eq.refl _).trans rfl
@[go_sem] theorem tt_104 : Tt 104 = Ty.sc (D.int IntKind.u16 0) := (Eq.refl _).trans rfl
@[go_sem] theorem tt_106 : Tt 106 = Ty.sc D.nilf := (Eq.refl _).trans rfl
@[go_sem] theorem tt_107 : Tt 107 = Ty.sc D.nilf := (Eq.refl _).trans rfl
@[go_sem] theorem tt_108 : Tt 108 = Ty.st 3 [(0, 1, 9), (1, 2, 75)] [D.str ⟨#[]⟩, D.int IntKind.i64 0, D.int IntKind.i64 0] true := (Eq.refl _).trans rfl
@[go_sem] theorem tt_109 : Tt 109 = Ty.st 3 [(0, 1, 9), (1, 2, 75)] [D.str ⟨#[]⟩, D.int IntKind.i64 0, D.int IntKind.i64 0] true := (Eq.refl _).trans rfl
@[go_sem] theorem tt_110 : Tt 110 = Ty.sc D.nilf := (Eq.refl _).trans rfl
@[go_sem] theorem tt_111 : Tt 111 = Ty.sc D.nilf := (Eq.refl _).trans rfl
@[go_sem] theorem tt_112 : Tt 112 = Ty.sc D.nilf := (Eq.refl _).trans rfl
@[go_sem] theorem tt_113 : Tt 113 = Ty.sc D.nilf := (Eq.refl _).trans rfl
@[go_sem] theorem tt_114 : Tt 114 = Ty.sl 4 (D.agg [D.int IntKind.u8 0, D.int IntKind.u8 0, D.int IntKind.u8 0, D.int IntKind.u8 0]) := (Eq.refl _).trans rfl
@[go_sem] theorem tt_115 : Tt 115 = Ty.ar 3 1 5 [D.int IntKind.u8 0, D.int IntKind.u8 0, D.int IntKind.u8 0] false := (Eq.refl _).trans rfl
@[go_sem] theorem tt_116 : Tt 116 = Ty.ar 4 1 5 [D.int IntKind.u8 0, D.int IntKind.u8 0, D.int IntKind.u8 0, D.int IntKind.u8 0] false := (Eq.refl _).trans rfl
@[go_sem] theorem tt_117 : Tt 117 = Ty.sc D.nilf := (Eq.refl _).trans rfl
@[go_sem] theorem tt_118 : Tt 118 = Ty.sc D.nilf := (Eq.refl _).trans rfl
@[go_sem] theorem tt_119 : Tt 119 = Ty.sc D.nilf := (Eq.refl _).trans rfl
@[go_sem] theorem tt_120 : Tt 120 = Ty.sl 2 (D.agg [D.int IntKind.u8 0, D.int IntKind.u8 0]) := (Eq.refl _).trans rfl
@[go_sem] theorem tt_121 : Tt 121 = Ty.ar 2 1 5 [D.int IntKind.u8 0, D.int IntKind.u8 0] false := (Eq.refl _).trans rfl
@[go_sem] theorem tt_122 : Tt 122 = Ty.sl 1 (D.int IntKind.u8 0) := (Eq.refl _).trans rfl
@[go_sem] theorem tt_123 : Tt 123 = Ty.sc D.nilf := (Eq.refl _).trans rfl
@[go_sem] theorem tt_124 : Tt 124 = Ty.sc D.nilf := (Eq.refl _).trans rfl
@[go_sem] theorem tt_125 : Tt 125 = Ty.sc D.nilf := (Eq.refl _).trans rfl
@[go_sem] theorem tt_126 : Tt 126 = Ty.sc D.nilf := (Eq.refl _).trans rfl
@[go_sem] theorem tt_127 : Tt 127 = Ty.sc D.nilf := (Eq.refl _).trans rfl
@[go_sem] theorem tt_128 : Tt 128 = Ty.sc D.nilf := (Eq.refl _).trans rfl
@[go_sem] theorem tt_129 : Tt 129 = Ty.sc D.nilf := (Eq.refl _).trans rfl
@[go_sem] theorem tt_130 : Tt 130 = Ty.sc D.nilf := (Eq.refl _).trans rfl
@[go_sem] theorem tt_131 : Tt 131 = Ty.sc D.nilf := (Eq.refl _).trans rfl
@[go_sem] theorem tt_132 : Tt 132 = Ty.sc D.nilf := (Eq.refl _).trans rfl
@[go_sem] theorem tt_133 : Tt 133 = Ty.sc D.nilf := (Eq.refl _).trans rfl
@[go_sem] theorem tt_134 : Tt 134 = Ty.sc D.nilf := (Eq.refl _).trans rfl
@[go_sem] theorem tt_135 : Tt 135 = Ty.sl 2 (D.agg [D.int IntKind.i64 0, D.sl []]) := (Eq.refl _).trans rfl
@[go_sem] theorem tt_136 : Tt 136 = Ty.st 3 [(0, 2, 25), (2, 1, 135)] [D.sl [], D.sl [], D.sl []] false := (Eq.refl _).trans rfl
@[go_sem] theorem tt_137 : Tt 137 = Ty.st 3 [(0, 2, 25), (2, 1, 135)] [D.sl [], D.sl [], D.sl []] false := (Eq.refl _).trans rfl
@[go_sem] theorem tt_139 : Tt 139 = Ty.sc D.nilf := (Eq.refl _).trans rfl
@[go_sem] theorem tt_140 : Tt 140 = Ty.sc D.nilf := (Eq.refl _).trans rfl
@[go_sem] theorem tt_142 : Tt 142 = Ty.sc D.nilf := (Eq.refl _).trans rfl
@[go_sem] theorem tt_143 : Tt 143 = Ty.sc D.nilf := (Eq.refl _).trans rfl
@[go_sem] theorem tt_144 : Tt 144 = Ty.sc D.nilf := (Eq.refl _).trans rfl
@[go_sem] theorem tt_145 : Tt 145 = Ty.sc D.nilf := (Eq.refl _).trans rfl
@[go_sem] theorem tt_146 : Tt 146 = Ty.sc D.nilf := (Eq.refl _).trans rfl
@[go_sem] theorem tt_147 : Tt 147 = Ty.mp (D.str ⟨#[]⟩) (D.bool false) := (Eq.refl _).trans rfl
@[go_sem] theorem tt_148 : Tt 148 = Ty.sc D.nilf := (Eq.refl _).trans rfl
@[go_sem] theorem tt_149 : Tt 149 = Ty.sc D.nilf := (Eq.refl _).trans rfl
@[go_sem] theorem tt_150 : Tt 150 = Ty.sc D.nilf := (Eq.refl _).trans rfl
@[go_sem] theorem tt_151 : Tt 151 = Ty.sc D.nilf := (Eq.refl _).trans rfl
@[go_sem] theorem tt_152 : Tt 152 = Ty.sc D.nilf := (Eq.refl _).trans rfl
@[go_sem] theorem tt_153 : Tt 153 = Ty.sc D.nilf := (Eq.refl _).trans rfl
@[go_sem] theorem tt_154 : Tt 154 = Ty.sc D.nilf := (Eq.refl _).trans rfl
@[go_sem] theorem tt_155 : Tt 155 = Ty.sc D.nilf := (Eq.refl _).trans rfl
@[go_sem] theorem tt_156 : Tt 156 = Ty.sl 1 (D.bool false) := (Eq.refl _).trans rfl
@[go_sem] theorem tt_157 : Tt 157 = Ty.sc D.nilf := (Eq.refl _).trans rfl
@[go_sem] theorem tt_158 : Tt 158 = Ty.st 4 [(0, 3, 137), (3, 1, 87)] [D.sl [], D.sl [], D.sl [], D.sl []] false := (Eq.refl _).trans rfl
@[go_sem] theorem tt_159 : Tt 159 = Ty.st 4 [(0, 3, 137), (3, 1, 87)] [D.sl [], D.sl [], D.sl [], D.sl []] false := (Eq.refl _).trans rfl
@[go_sem] theorem tt_161 : Tt 161 = Ty.sc D.nilf := (Eq.refl _).trans rfl
@[go_sem] theorem tt_162 : Tt 162 = Ty.sc D.nilf := (Eq.refl _).trans rfl
@[go_sem] theorem tt_163 : Tt 163 = Ty.sc D.nilf := (Eq.refl _).trans rfl
@[go_sem] theorem tt_164 : Tt 164 = Ty.sc (D.int IntKind.u64 0) := (Eq.refl _).trans rfl
@[go_sem] theorem tt_165 : Tt 165 = Ty.sc D.nilf := (Eq.refl _).trans rfl
@[go_sem] theorem tt_166 : Tt 166 = Ty.sc D.nilf := (Eq.refl _).trans rfl
@[go_sem] theorem tt_167 : Tt 167 = Ty.sc D.nilf := (Eq.refl _).trans rfl
@[go_sem] theorem tt_168 : Tt 168 = Ty.sc D.nilf := (Eq.refl _).trans rfl
@[go_sem] theorem tt_169 : Tt 169 = Ty.mp (D.str ⟨#[]⟩) (D.int IntKind.i64 0) := (Eq.refl _).trans rfl
@[go_sem] theorem tt_170 : Tt 170 = Ty.sc D.nilf := (Eq.refl _).trans rfl
@[go_sem] theorem tt_171 : Tt 171 = Ty.sc D.nilf := (Eq.refl _).trans rfl
@[go_sem] theorem tt_172 : Tt 172 = Ty.sc D.nilf := (Eq.refl _).trans rfl
@[go_sem] theorem tt_173 : Tt 173 = Ty.sc D.nilf := (Eq.refl _).trans rfl
@[go_sem] theorem tt_174 : Tt 174 = Ty.sc D.nilf := (Eq.refl _).trans rfl
@[go_sem] theorem tt_175 : Tt 175 = Ty.sc D.nilf := (Eq.refl _).trans rfl
@[go_sem] theorem tt_176 : Tt 176 = Ty.sc D.nilf := (Eq.refl _).trans rfl
@[go_sem] theorem tt_177 : Tt 177 = Ty.st 2 [(0, 1, 3), (1, 1, 22)] [D.int IntKind.i64 0, D.sl []] false := (Eq.refl _).trans rfl
@[go_sem] theorem tt_178 : Tt 178 = Ty.st 2 [(0, 1, 3), (1, 1, 22)] [D.int IntKind.i64 0, D.sl []] false := (Eq.refl _).trans rfl
@[go_sem] theorem tt_179 : Tt 179 = Ty.sc D.nilf := (Eq.refl _).trans rfl
@[go_sem] theorem tt_180 : Tt 180 = Ty.sc D.nilf := (Eq.refl _).trans rfl
@[go_sem] theorem tt_182 : Tt 182 = Ty.sc D.nilf := (Eq.refl _).trans rfl
@[go_sem] theorem tt_183 : Tt 183 = Ty.sc D.nilf := (Eq.refl _).trans rfl
@[go_sem] theorem tt_184 : Tt 184 = Ty.sc D.nilf := (Eq.refl _).trans rfl
@[go_sem] theorem tt_185 : Tt 185 = Ty.sc D.nilf := (Eq.refl _).trans rfl
@[go_sem] theorem tt_186 : Tt 186 = Ty.sc D.nilf := (Eq.refl _).trans rfl
@[go_sem] theorem tt_187 : Tt 187 = Ty.sc D.nilf := (Eq.refl _).trans rfl
@[go_sem] theorem tt_188 : Tt 188 = Ty.sc D.nilf := (Eq.refl _).trans rfl
@[go_sem] theorem tt_189 : Tt 189 = Ty.sc D.nilf := (Eq.refl _).trans rfl
@[go_sem] theorem tt_190 : Tt 190 = Ty.sc D.nilf := (Eq.refl _).trans rfl
@[go_sem] theorem tt_191 : Tt 191 = Ty.ar 11 1 3 [D.int IntKind.i64 0, D.int IntKind.i64 0, D.int IntKind.i64 0, D.int IntKind.i64 0, D.int IntKind.i64 0, D.int IntKind.i64 0, D.int IntKind.i64 0, D.int IntKind.i64 0, D.int IntKind.i64 0, D.int IntKind.i64 0, D.int IntKind.i64 0] false := (Eq.refl _).trans rfl
@[go_sem] theorem tt_192 : Tt 192 = Ty.ar 11 11 191 [D.int IntKind.i64 0, D.int IntKind.i64 0, D.int IntKind.i64 0, D.int IntKind.i64 0, D.int IntKind.i64 0, D.int IntKind.i64 0, D.int IntKind.i64 0, D.int IntKind.i64 0, D.int IntKind.i64 0, D.int IntKind.i64 0, D.int IntKind.i64 0, D.int IntKind.i64 0, D.int IntKind.i64 0, D.int IntKind.i64 0, D.int IntKind.i64 0, D.int IntKind.i64 0, D.int IntKind.i64 0, D.int IntKind.i64 0, D.int IntKind.i64 0, D.int IntKind.i64 0, D.int IntKind.i64 0, D.int IntKind.i64 0, D.int IntKind.i64 0, D.int IntKind.i64 0, D.int IntKind.i64 0, D.int IntKind.i64 0, D.int IntKind.i64 0, D.int IntKind.i64 0, D.int IntKind.i64 0, D.int IntKind.i64 0, D.int IntKind.i64 0, D.int IntKind.i64 0, D.int IntKind.i64 0, D.int IntKind.i64 0, D.int IntKind.i64 0, D.int IntKind.i64 0, D.int IntKind.i64 0, D.int IntKind.i64 0, D.int IntKind.i64 0, D.int IntKind.i64 0, D.int IntKind.i64 0, D.int IntKind.i64 0, D.int IntKind.i64 0, D.int IntKind.i64 0, D.int IntKind.i64 0, D.int IntKind.i64 0, D.int IntKind.i64 0, D.int IntKind.i64 0, D.int IntKind.i64 0, D.int IntKind.i64 0, D.int IntKind.i64 0, D.int IntKind.i64 0, D.int IntKind.i64 0, D.int IntKind.i64 0, D.int IntKind.i64 0, D.int IntKind.i64 0, D.int IntKind.i64 0, D.int IntKind.i64 0, D.int IntKind.i64 0, D.int IntKind.i64 0, D.int IntKind.i64 0, D.int IntKind.i64 0, D.int IntKind.i64 0, D.int IntKind.i64 0, D.int IntKind.i64 0, D.int IntKind.i64 0, D.int IntKind.i64 0, D.int IntKind.i64 0, D.int IntKind.i64 0, D.int IntKind.i64 0, D.int IntKind.i64 0, D.int IntKind.i64 0, D.int IntKind.i64 0, D.int IntKind.i64 0, D.int IntKind.i64 0, D.int IntKind.i64 0, D.int IntKind.i64 0, D.int IntKind.i64 0, D.int IntKind.i64 0, D.int IntKind.i64 0, D.int IntKind.i64 0, D.int IntKind.i64 0, D.int IntKind.i64 0, D.int IntKind.i64 0, D.int IntKind.i64 0, D.int IntKind.i64 0, D.int IntKind.i64 0, D.int IntKind.i64 0, D.int IntKind.i64 0, D.int IntKind.i64 0, D.int IntKind.i64 0, D.int IntKind.i64 0, D.int IntKind.i64 0, D.int IntKind.i64 0, D.int IntKind.i64 0, D.int IntKind.i64 0, D.int IntKind.i64 0, D.int IntKind.i64 0, D.int IntKind.i64 0, D.int IntKind.i64 0, D.int IntKind.i64 0, D.int IntKind.i64 0, D.int IntKind.i64 0, D.int IntKind.i64 0, D.int IntKind.i64 0, D.int IntKind.i64 0, D.int IntKind.i64 0, D.int IntKind.i64 0, D.int IntKind.i64 0, D.int IntKind.i64 0, D.int IntKind.i64 0, D.int IntKind.i64 0, D.int IntKind.i64 0, D.int IntKind.i64 0, D.int IntKind.i64 0, D.int IntKind.i64 0, D.int IntKind.i64 0, D.int IntKind.i64 0, D.int IntKind.i64 0, D.int IntKind.i64 0, D.int IntKind.i64 0] false := (Eq.refl _).trans rfl
@[go_sem] theorem tt_193 : Tt 193 = Ty.sc D.nilf := (Eq.refl _).trans rfl
@[go_sem] theorem tt_194 : Tt 194 = Ty.sc D.nilf := (Eq.refl _).trans rfl
@[go_sem] theorem tt_195 : Tt 195 = Ty.sc D.nilf := (Eq.refl _).trans rfl
@[go_sem] theorem tt_196 : Tt 196 = Ty.sc D.nilf := (Eq.refl _).trans rfl
@[go_sem] theorem tt_197 : Tt 197 = Ty.mp (D.int IntKind.i64 0) (D.int IntKind.i64 0) := (Eq.refl _).trans rfl
@[go_sem] theorem tt_198 : Tt 198 = Ty.sc D.nilf := (Eq.refl _).trans rfl
@[go_sem] theorem tt_199 : Tt 199 = Ty.sc D.nilf := (Eq.refl _).trans rfl
@[go_sem] theorem tt_200 : Tt 200 = Ty.sc D.nilf := (Eq.refl _).trans rfl
@[go_sem] theorem tt_201 : Tt 201 = Ty.sc D.nilf := (Eq.refl _).trans rfl
@[go_sem] theorem tt_202 : Tt 202 = Ty.sc D.nilf := (Eq.refl _).trans rfl
@[go_sem] theorem tt_203 : Tt 203 = Ty.sc D.nilf := (Eq.refl _).trans rfl
@[go_sem] theorem tt_204 : Tt 204 = Ty.sc D.nilf := (Eq.refl _).trans rfl
@[go_sem] theorem tt_205 : Tt 205 = Ty.sc D.nilf := (Eq.refl _).trans rfl
@[go_sem] theorem tt_206 : Tt 206 = Ty.sc D.nilf := (Eq.refl _).trans rfl
@[go_sem] theorem tt_207 : Tt 207 = Ty.sc (D.int IntKind.i64 0) := (Eq.refl _).trans rfl
@[go_sem] theorem tt_209 : Tt 209 = Ty.sc D.nilf := (Eq.refl _).trans rfl
@[go_sem] theorem tt_210 : Tt 210 = Ty.sc D.nilf := (Eq.refl _).trans rfl
@[go_sem] theorem tt_211 : Tt 211 = Ty.sc D.nilf := (Eq.refl _).trans rfl
@[go_sem] theorem tt_212 : Tt 212 = Ty.sc D.nilf := (Eq.refl _).trans rfl
@[go_sem] theorem tt_213 : Tt 213 = Ty.sc D.nilf := (Eq.refl _).trans rfl
@[go_sem] theorem tt_214 : Tt 214 = Ty.sc D.nilf := (Eq.refl _).trans rfl
@[go_sem] theorem tt_215 : Tt 215 = Ty.sc (D.int IntKind.u32 0) := (Eq.refl _).trans rfl
@[go_sem] theorem tt_216 : Tt 216 = Ty.sc D.nilf := (Eq.refl _).trans rfl
@[go_sem] theorem tt_217 : Tt 217 = Ty.sc (D.int IntKind.u64 0) := (Eq.refl _).trans rfl
@[go_sem] theorem tt_218 : Tt 218 = Ty.sc D.nilf := (Eq.refl _).trans rfl
@[go_sem] theorem tt_219 : Tt 219 = Ty.sc D.nilf := (Eq.refl _).trans rfl
@[go_sem] theorem tt_220 : Tt 220 = Ty.sc D.nilf := (Eq.refl _).trans rfl
@[go_sem] theorem tt_221 : Tt 221 = Ty.sc D.nilf := (Eq.refl _).trans rfl
@[go_sem] theorem tt_222 : Tt 222 = Ty.sc D.nilf := (Eq.refl _).trans rfl
@[go_sem] theorem tt_223 : Tt 223 = Ty.sc D.nilf := (Eq.refl _).trans rfl
@[go_sem] theorem tt_224 : Tt 224 = Ty.sc D.nilf := (Eq.refl _).trans rfl
@[go_sem] theorem tt_225 : Tt 225 = Ty.sc (D.int IntKind.u64 0) := (Eq.refl _).trans rfl
@[go_sem] theorem tt_226 : Tt 226 = Ty.sc D.nilf := (Eq.refl _).trans rfl
@[go_sem] theorem tt_227 : Tt 227 = Ty.sc D.nilf := (Eq.refl _).trans rfl
@[go_sem] theorem tt_228 : Tt 228 = Ty.sc D.nilf := (Eq.refl _).trans rfl
@[go_sem] theorem tt_229 : Tt 229 = Ty.sc D.nilp := (Eq.refl _).trans rfl
@[go_sem] theorem tt_230 : Tt 230 = Ty.sc D.nilf := (Eq.refl _).trans rfl
@[go_sem] theorem tt_231 : Tt 231 = Ty.sc D.nilf := (Eq.refl _).trans rfl
@[go_sem] theorem tt_232 : Tt 232 = Ty.sc D.nilf := (Eq.refl _).trans rfl
@[go_sem] theorem tt_233 : Tt 233 = Ty.sc D.nilp := (Eq.refl _).trans rfl
@[go_sem] theorem tt_235 : Tt 235 = Ty.sc D.nilf := (Eq.refl _).trans rfl
@[go_sem] theorem tt_236 : Tt 236 = Ty.sc D.nilf := (Eq.refl _).trans rfl
@[go_sem] theorem tt_237 : Tt 237 = Ty.sc D.nilf := (Eq.refl _).trans rfl
@[go_sem] theorem tt_238 : Tt 238 = Ty.st 4 [(0, 1, 17), (1, 1, 17), (2, 1, 17), (3, 1, 9)] [D.nilp, D.nilp, D.nilp, D.str ⟨#[]⟩] false := (Eq.refl _).trans rfl
@[go_sem] theorem tt_239 : Tt 239 = Ty.st 4 [(0, 1, 17), (1, 1, 17), (2, 1, 17), (3, 1, 9)] [D.nilp, D.nilp, D.nilp, D.str ⟨#[]⟩] false := (Eq.refl _).trans rfl
@[go_sem] theorem tt_240 : Tt 240 = Ty.ar 0 1 16 [] false := (Eq.refl _).trans rfl
@[go_sem] theorem tt_243 : Tt 243 = Ty.sc D.nilf := (Eq.refl _).trans rfl
@[go_sem] theorem tt_244 : Tt 244 = Ty.sc (D.int IntKind.u8 0) := (Eq.refl _).trans rfl
@[go_sem] theorem tt_245 : Tt 245 = Ty.sc (D.int IntKind.u8 0) := (Eq.refl _).trans rfl
@[go_sem] theorem tt_246 : Tt 246 = Ty.sc D.nilf := (Eq.refl _).trans rfl
@[go_sem] theorem tt_247 : Tt 247 = Ty.sc D.nilp := (Eq.refl _).trans rfl
@[go_sem] theorem tt_248 : Tt 248 = Ty.sc (D.int IntKind.i32 0) := (Eq.refl _).trans rfl
@[go_sem] theorem tt_249 : Tt 249 = Ty.sc (D.int IntKind.i32 0) := (Eq.refl _).trans rfl
@[go_sem] theorem tt_250 : Tt 250 = Ty.st 11 [(0, 1, 12), (1, 1, 12), (2, 1, 215), (3, 1, 244), (4, 1, 5), (5, 1, 5), (6, 1, 245), (7, 1, 246), (8, 1, 247), (9, 1, 248), (10, 1, 249)] [D.int IntKind.u64 0, D.int IntKind.u64 0, D.int IntKind.u32 0, D.int IntKind.u8 0, D.int IntKind.u8 0, D.int IntKind.u8 0, D.int IntKind.u8 0, D.nilf, D.nilp, D.int IntKind.i32 0, D.int IntKind.i32 0] false := (Eq.refl _).trans rfl
@[go_sem] theorem tt_251 : Tt 251 = Ty.st 11 [(0, 1, 12), (1, 1, 12), (2, 1, 215), (3, 1, 244), (4, 1, 5), (5, 1, 5), (6, 1, 245), (7, 1, 246), (8, 1, 247), (9, 1, 248), (10, 1, 249)] [D.int IntKind.u64 0, D.int IntKind.u64 0, D.int IntKind.u32 0, D.int IntKind.u8 0, D.int IntKind.u8 0, D.int IntKind.u8 0, D.int IntKind.u8 0, D.nilf, D.nilp, D.int IntKind.i32 0, D.int IntKind.i32 0] false := (Eq.refl _).trans rfl

end Go.Aw
end

section
set_option maxRecDepth 100000
namespace Go.Aw
open Go

instance : Inhabited ByteArray := ⟨⟨#[]⟩⟩

/-! ### Sorting by insertion -/

theorem snoc_ind {α : Type} {p : List α → Prop} (h0 : p []) (h1 : ∀ l x, p l → p (l ++ [x])) (l : List α) : p l := by
  have key : ∀ l : List α, p l.reverse := fun l => by
    induction l with
    | nil => exact h0
    | cons x l ih => rw [List.reverse_cons]; exact h1 _ _ ih
  have := key l.reverse
  rwa [List.reverse_reverse] at this

theorem takeWhile_mem {α : Type} {p : α → Bool} : ∀ {l : List α} {x : α}, x ∈ l.takeWhile p → p x = true
  | [], _, h => by simp at h
  | a :: l, x, h => by
    rw [List.takeWhile_cons] at h
    split at h
    · rename_i ha
      rcases List.mem_cons.1 h with rfl | h
      · exact ha
      · exact takeWhile_mem h
    · simp at h

section
set_option linter.unusedSectionVars false
variable {α : Type} [Inhabited α]

/-- An element sinks to its place. -/
def sinkG (lt : α → α → Bool) : Nat → List α → List α
  | 0, l => l
  | j + 1, l => if lt (l.getD (j + 1) default) (l.getD j default) = true then sinkG lt j ((l.set (j + 1) (l.getD j default)).set j (l.getD (j + 1) default)) else l

theorem sinkG_len (lt : α → α → Bool) : ∀ (j : Nat) (l : List α), (sinkG lt j l).length = l.length
  | 0, _ => rfl
  | j + 1, l => by
    simp only [sinkG]
    split
    · rw [sinkG_len lt j]; simp
    · rfl

def isortG (lt : α → α → Bool) (l : List α) (i : Nat) : List α := (List.range i).foldl (fun l i => sinkG lt (i + 1) l) l

theorem isortG_succ (lt : α → α → Bool) (l : List α) (i : Nat) : isortG lt l (i + 1) = sinkG lt (i + 1) (isortG lt l i) := by
  rw [isortG, List.range_succ, List.foldl_append]; rfl

theorem isortG_len (lt : α → α → Bool) (l : List α) : ∀ i, (isortG lt l i).length = l.length
  | 0 => rfl
  | i + 1 => by rw [isortG_succ, sinkG_len, isortG_len lt l i]

theorem getDG {l : List α} {i : Nat} (h : i < l.length) : l.getD i default = l[i] := by simp [List.getD_eq_getElem?_getD, List.getElem?_eq_getElem h]

/-- An element is put behind those that it is not less than. -/
def insG (lt : α → α → Bool) (x : α) (l : List α) : List α := l.takeWhile (fun y => !lt x y) ++ x :: l.dropWhile (fun y => !lt x y)

def sortG (lt : α → α → Bool) (l : List α) : List α := l.foldl (fun s x => insG lt x s) []

theorem sortG_snoc (lt : α → α → Bool) (l : List α) (x : α) : sortG lt (l ++ [x]) = insG lt x (sortG lt l) := by rw [sortG, List.foldl_append]; rfl

theorem insG_len (lt : α → α → Bool) (x : α) (l : List α) : (insG lt x l).length = l.length + 1 := by
  have := congrArg List.length (List.takeWhile_append_dropWhile (p := fun y => !lt x y) (l := l))
  rw [List.length_append] at this
  rw [insG, List.length_append, List.length_cons]
  omega

theorem sortG_len (lt : α → α → Bool) (l : List α) : (sortG lt l).length = l.length := by
  induction l using snoc_ind with
  | h0 => rfl
  | h1 l x ih => rw [sortG_snoc, insG_len, ih]; simp

theorem insG_mem {lt : α → α → Bool} {x y : α} {l : List α} : y ∈ insG lt x l ↔ y = x ∨ y ∈ l := by
  have := List.takeWhile_append_dropWhile (p := fun y => !lt x y) (l := l)
  conv => rhs; rw [← this]
  simp only [insG, List.mem_append, List.mem_cons]
  constructor
  · rintro (h | h | h)
    · exact .inr (.inl h)
    · exact .inl h
    · exact .inr (.inr h)
  · rintro (h | h | h)
    · exact .inr (.inl h)
    · exact .inl h
    · exact .inr (.inr h)

theorem sortG_mem {lt : α → α → Bool} {y : α} {l : List α} : y ∈ sortG lt l ↔ y ∈ l := by
  induction l using snoc_ind with
  | h0 => rfl
  | h1 l x ih => rw [sortG_snoc, insG_mem, ih]; simp [or_comm]

/-- A comparison by which lists can be sorted. -/
structure LtOk (lt : α → α → Bool) : Prop where
  asym : ∀ a b, lt a b = true → lt b a = false
  trans : ∀ a b c, lt b a = false → lt c b = false → lt c a = false

def SortedG (lt : α → α → Bool) (l : List α) : Prop := l.Pairwise fun a b => lt b a = false

theorem dropWhile_head {p : α → Bool} : ∀ {l : List α} {y : α} {r : List α}, l.dropWhile p = y :: r → p y = false
  | [], _, _, h => by simp at h
  | x :: l, y, r, h => by
    rw [List.dropWhile_cons] at h
    split at h
    · exact dropWhile_head h
    · rename_i hx
      cases h
      simpa using hx

theorem insG_sorted {lt : α → α → Bool} (hlt : LtOk lt) {x : α} {l : List α} (h : SortedG lt l) : SortedG lt (insG lt x l) := by
  have e := List.takeWhile_append_dropWhile (p := fun y => !lt x y) (l := l)
  have h' := h
  rw [SortedG, ← e, List.pairwise_append] at h'
  obtain ⟨h1, h2, h3⟩ := h'
  have hA : ∀ a ∈ l.takeWhile (fun y => !lt x y), lt x a = false := fun a ha => by simpa using takeWhile_mem ha
  have hB : ∀ b ∈ l.dropWhile (fun y => !lt x y), lt b x = false := fun b hb => by
    cases hd : l.dropWhile (fun y => !lt x y) with
    | nil => rw [hd] at hb; simp at hb
    | cons y r =>
      have hy := dropWhile_head hd
      have hy' : lt x y = true := by simpa using hy
      rw [hd] at hb h2
      rcases List.mem_cons.1 hb with rfl | hb
      · exact hlt.asym _ _ hy'
      · exact hlt.trans _ _ _ (hlt.asym _ _ hy') (List.rel_of_pairwise_cons h2 hb)
  rw [SortedG, insG, List.pairwise_append]
  refine ⟨h1, List.pairwise_cons.2 ⟨hB, h2⟩, fun a ha b hb => ?_⟩
  rcases List.mem_cons.1 hb with rfl | hb
  · exact hA a ha
  · exact h3 a ha b hb

theorem sortG_sorted {lt : α → α → Bool} (hlt : LtOk lt) (l : List α) : SortedG lt (sortG lt l) := by
  induction l using snoc_ind with
  | h0 => exact List.Pairwise.nil
  | h1 l x ih => rw [sortG_snoc]; exact insG_sorted hlt ih

theorem insG_snoc_lt {lt : α → α → Bool} {x y : α} {l : List α} (h : lt x y = true) : insG lt x (l ++ [y]) = insG lt x l ++ [y] := by
  induction l with
  | nil => simp [insG, h]
  | cons a l ih =>
    cases ha : lt x a with
    | true => simp [insG, ha]
    | false =>
      have e : ∀ r : List α, insG lt x (a :: r) = a :: insG lt x r := fun r => by simp [insG, ha]
      rw [List.cons_append, e, e, ih, List.cons_append]

theorem insG_all {lt : α → α → Bool} {x : α} {l : List α} (h : ∀ y ∈ l, lt x y = false) : insG lt x l = l ++ [x] := by
  induction l with
  | nil => simp [insG]
  | cons a l ih =>
    have ha := h a List.mem_cons_self
    have e : insG lt x (a :: l) = a :: insG lt x l := by simp [insG, ha]
    rw [e, ih fun y hy => h y (List.mem_cons_of_mem _ hy), List.cons_append]

theorem sinkG_ins {lt : α → α → Bool} (hlt : LtOk lt) : ∀ (S : List α) (x : α) (r : List α), SortedG lt S → sinkG lt S.length (S ++ x :: r) = insG lt x S ++ r := by
  intro S
  induction S using snoc_ind with
  | h0 => intro x r _; simp [sinkG, insG]
  | h1 S y ih =>
    intro x r hS
    have hS' : SortedG lt S := (List.pairwise_append.1 hS).1
    have hy : ∀ a ∈ S, lt y a = false := fun a ha => (List.pairwise_append.1 hS).2.2 a ha y (by simp)
    have e1 : ((S ++ [y]) ++ x :: r).getD (S.length + 1) default = x := by simp [List.getD_eq_getElem?_getD]
    have e2 : ((S ++ [y]) ++ x :: r).getD S.length default = y := by simp [List.getD_eq_getElem?_getD]
    have e3 : (((S ++ [y]) ++ x :: r).set (S.length + 1) y).set S.length x = S ++ x :: (y :: r) := by simp [List.set_append]
    rw [List.length_append, List.length_singleton, sinkG, e1, e2, e3]
    split
    · rename_i h
      rw [ih x (y :: r) hS', insG_snoc_lt h]; simp
    · rename_i h
      have h' : lt x y = false := by simpa using h
      rw [insG_all fun a ha => ?_]
      · simp
      · rcases List.mem_append.1 ha with ha | ha
        · exact hlt.trans _ _ _ (hy a ha) h'
        · simp at ha; subst ha; exact h'

theorem isortG_eq {lt : α → α → Bool} (hlt : LtOk lt) (l : List α) : ∀ i, i < l.length → isortG lt l i = sortG lt (l.take (i + 1)) ++ l.drop (i + 1)
  | 0, h => by
    cases l with
    | nil => simp at h
    | cons a l => simp [isortG, sortG, insG]
  | i + 1, h => by
    rw [isortG_succ, isortG_eq hlt l i (by omega), List.drop_eq_getElem_cons h]
    have hl : (sortG lt (l.take (i + 1))).length = i + 1 := by rw [sortG_len]; simp; omega
    have := sinkG_ins hlt (sortG lt (l.take (i + 1))) l[i + 1] (l.drop (i + 1 + 1)) (sortG_sorted hlt _)
    rw [hl] at this
    rw [this, List.take_succ_eq_append_getElem h, sortG_snoc]

theorem isortG_sort {lt : α → α → Bool} (hlt : LtOk lt) (l : List α) : isortG lt l (l.length - 1) = sortG lt l := by
  rcases Nat.eq_zero_or_pos l.length with h | h
  · have : l = [] := List.length_eq_zero_iff.1 h
    subst this; rfl
  · rw [isortG_eq hlt l _ (by omega), show l.length - 1 + 1 = l.length by omega]; simp

theorem filter_insG {lt : α → α → Bool} {p : α → Bool} {x : α} {l : List α} (h : p x = false) : (insG lt x l).filter p = l.filter p := by
  conv => rhs; rw [← List.takeWhile_append_dropWhile (p := fun y => !lt x y) (l := l)]
  rw [insG, List.filter_append, List.filter_append, List.filter_cons, h]; rfl
end

/-! ### Names and towns -/

def letter (b : UInt8) : Bool := decide (97 ≤ b.toNat) && decide (b.toNat ≤ 122)

/-- Is it a name? -/
def nm (s : ByteArray) : Bool := s.data.toList.all letter && (decide (1 ≤ s.size) && decide (s.size ≤ 10))

structure Chg where
  at' : Int
  st : Int
  name : ByteArray
deriving Inhabited

def Chg.d (c : Chg) : D := .agg [.int .i64 c.at', .int .i64 c.st, .str c.name]

structure Town where
  first : List ByteArray
  ch : List Chg

def Town.d (t : Town) : D := .agg [.sl (t.first.map .str), .sl (t.ch.map Chg.d)]

def chgOk (n : Nat) (c : Chg) : Bool := decide (1 ≤ c.at' ∧ c.at' ≤ 1000) && decide (0 ≤ c.st ∧ c.st < n) && nm c.name

theorem beq_str (x y : ByteArray) : (x == y) = decide (x = y) := by
  rw [Bool.eq_iff_iff, decide_eq_true_eq]
  cases x with | mk a => cases y with | mk b =>
  show ByteArray.beq ⟨a⟩ ⟨b⟩ = true ↔ _
  unfold ByteArray.beq
  constructor
  · intro h
    congr 1
    simpa using h
  · intro h
    cases h
    simp

/-- How often something stands in a list. -/
def cntL {α : Type} [DecidableEq α] (x : α) (l : List α) : Nat := l.count x
theorem cntL_le {α : Type} [DecidableEq α] (x : α) (l : List α) : cntL x l ≤ l.length := List.count_le_length
theorem cntL_snoc {α : Type} [DecidableEq α] (x y : α) (l : List α) : cntL y (l ++ [x]) = cntL y l + if y = x then 1 else 0 := by
  rw [cntL, cntL, List.count_append, List.count_singleton]
  congr 1
  by_cases h : y = x
  · subst h; simp
  · rw [if_neg h, if_neg (by simpa using fun e => h e.symm)]

/-- The numbers of what stands twice in a list. -/
def twinsP {α : Type} [DecidableEq α] [Inhabited α] (l : List α) : List Nat := (List.range l.length).filter fun i => decide (1 < cntL (l.getD i default) l)

def checkT (t : Town) : Int :=
  if !(decide (1 ≤ t.first.length) && decide (t.first.length ≤ 6)) || t.first.any (fun s => !nm s) then 4
  else if twinsP t.first ≠ [] then 4
  else if t.ch.length > 8 then 5
  else if t.ch.any (fun c => !chgOk t.first.length c) then 2
  else 0

structure Town.Ok (t : Town) : Prop where
  len : 1 ≤ t.first.length ∧ t.first.length ≤ 6
  nms : ∀ s ∈ t.first, nm s = true
  one : twinsP t.first = []
  chl : t.ch.length ≤ 8
  chs : ∀ c ∈ t.ch, chgOk t.first.length c = true

theorem checkT_iff {t : Town} : checkT t = 0 ↔ t.Ok := by
  unfold checkT
  constructor
  · intro h
    split at h
    · cases h
    · split at h
      · cases h
      · split at h
        · cases h
        · split at h
          · cases h
          · rename_i h1 h2 h3 h4
            simp only [Bool.or_eq_true, Bool.not_eq_true', Bool.and_eq_false_imp, List.any_eq_true, not_or, not_exists, not_and] at h1 h4
            obtain ⟨h1, h5⟩ := h1
            refine ⟨?_, fun s hs => by simpa using h5 s hs, Classical.not_not.1 h2, by omega, fun c hc => by simpa using h4 c hc⟩
            by_cases ha : 1 ≤ t.first.length <;> by_cases hb : t.first.length ≤ 6 <;> simp_all
  · intro h
    rw [if_neg, if_neg (fun e => e h.one), if_neg (by have := h.chl; omega), if_neg]
    · rw [List.any_eq_true]
      rintro ⟨c, h1, h2⟩
      rw [h.chs c h1] at h2; cases h2
    · have := h.len
      simp only [Bool.or_eq_true, Bool.not_eq_true', List.any_eq_true, not_or, not_exists, not_and, Bool.and_eq_false_imp]
      refine ⟨fun e => ?_, fun s hs => by rw [h.nms s hs]; simp⟩
      have := e (decide_eq_true h.len.1)
      simp at this; omega

/-- How a street is called in an hour, and since when. -/
def callP (l : List Chg) (z : ByteArray) (s : Nat) (hour : Int) : ByteArray × Int := l.foldl (fun p c => if c.st = (s : Int) ∧ c.at' ≤ hour ∧ p.2 ≤ c.at' then (c.name, c.at') else p) (z, 0)
def calledT (t : Town) (s : Nat) (hour : Int) : ByteArray := (callP t.ch (t.first.getD s default) s hour).1

/-- How all streets are called. -/
def namesT (t : Town) (hour : Int) : List ByteArray := (List.range t.first.length).map fun s => calledT t s hour

/-- Streets that have two changes in an hour; streets that are called alike. -/
def twiceT (t : Town) (hour : Int) : List Nat := (List.range t.first.length).filter fun s => decide (1 < (t.ch.filter fun c => decide (c.at' = hour ∧ c.st = (s : Int))).length)
def alikeT (t : Town) (hour : Int) : List Nat := (List.range t.first.length).filter fun s => decide (1 < cntL (calledT t s hour) (namesT t hour))
def clashT (t : Town) (hour : Int) : List Nat := if twiceT t hour ≠ [] then twiceT t hour else alikeT t hour

end Go.Aw
end

section
set_option maxRecDepth 100000
namespace Go.Aw
open Go Go.Proofs.Tryz

theorem c120 {α : Type} {enc : α → D} (he : Enc 1 (Tt 3) enc) {H : Heap} {Q : V → Heap → Prop} (l : List α) (hl : l.length ≤ 4294967296) (k : Nat) (fx fy : List V) (p : α → Bool) (hf : ∀ x ∈ l, ∀ Q, Q (.d (.bool (p x))) H → ACallV prog (.fn (.func k) fx fy) [.d (enc x)] H Q) (h : Q (.d (.int .i64 (idx p l 0))) H) :
    ACalls prog 120 [.d (.sl (l.map enc)), .fn (.func k) fx fy] H Q := by
  refine ACalls.run (fun _ => false) tt_ok (fn := f120) (rs := [.tmp 4]) rfl rfl rfl rfl rfl rfl rfl ?_
  simp only [go_sem]
  refine ALoop.by (S := Nat) (fun i => [(8, .d (.int .i64 i)), (7, .d (.int .i64 l.length)), (0, .d (.sl (l.map enc))), (1, .fn (.func k) fx fy)]) (fun _ => H) (fun i => l.length - i) (fun i => i ≤ l.length ∧ idx p (l.drop i) i = idx p l 0) 0 (Nat.le_refl _) (fun _ h => nomatch h) ⟨Nat.zero_le _, rfl⟩ ?_ ?_
  · simp [ForgetTo, EW, VW, BBq, Env.look, pubV]
  · rintro i ⟨hi, hx⟩ hn
    refine AWP.run (fun _ => false) tt_ok (fun _ h => nomatch h) hn rfl ?_
    simp only [go_sem]
    refine Br_split (fun h => ?_) (fun h => ?_) <;> simp only [go_sem, h]
    · have hlt : i < l.length := by simpa using h
      rw [idx_drop p hlt] at hx
      have he1 := (he l[i]).1
      have he2 := (he l[i]).2
      simp only [go_sem, he1] at he2
      rw [idx_nat, List.getElem?_map, List.getElem?_eq_getElem hlt]
      simp only [go_sem, he1, he2]
      refine hf _ (List.getElem_mem hlt) _ ?_
      simp only [go_sem]
      refine Br_split (fun h => ?_) (fun h => ?_) <;> simp only [go_sem, h]
      · rw [h] at hx
        simp only [if_true] at hx
        rw [hx]; assumption
      · rw [h] at hx
        simp only [Bool.false_eq_true, if_false] at hx
        exact ⟨i + 1, ⟨hlt, hx⟩, by omega, by simp [ForgetTo, EW, VW, BBq, Env.look, pubV, w64 (n := (i : Int) + 1) (by omega) (by omega)]⟩
    · have hlt : ¬ i < l.length := by simpa using h
      have : l.drop i = [] := List.drop_eq_nil_of_le (by omega)
      rw [this] at hx
      simp only [idx] at hx
      rw [hx]; assumption

theorem c100 {α : Type} {enc : α → D} (he : Enc 1 (Tt 3) enc) {H : Heap} {Q : V → Heap → Prop} (l : List α) (hl : l.length ≤ 4294967296) (k : Nat) (fx fy : List V) (p : α → Bool) (hf : ∀ x ∈ l, ∀ Q, Q (.d (.bool (p x))) H → ACallV prog (.fn (.func k) fx fy) [.d (enc x)] H Q) (h : Q (.d (.bool (l.any p))) H) :
    ACalls prog 100 [.d (.sl (l.map enc)), .fn (.func k) fx fy] H Q := by
  refine ACalls.run (fun _ => false) tt_ok (fn := f100) (rs := [.tmp 4]) rfl rfl rfl rfl rfl rfl rfl ?_
  simp only [go_sem]
  refine c120 he l hl k fx fy p hf ?_
  simp only [go_sem]
  rw [idx_ge p l 0 (by omega)]
  exact h

theorem c102 {α : Type} {enc : α → D} (he : Enc 1 (Tt 9) enc) {H : Heap} {Q : V → Heap → Prop} (l : List α) (hl : l.length ≤ 4294967296) (k : Nat) (fx fy : List V) (p : α → Bool) (hf : ∀ x ∈ l, ∀ Q, Q (.d (.bool (p x))) H → ACallV prog (.fn (.func k) fx fy) [.d (enc x)] H Q) (h : Q (.d (.int .i64 (idx p l 0))) H) :
    ACalls prog 102 [.d (.sl (l.map enc)), .fn (.func k) fx fy] H Q := by
  refine ACalls.run (fun _ => false) tt_ok (fn := f102) (rs := [.tmp 4]) rfl rfl rfl rfl rfl rfl rfl ?_
  simp only [go_sem]
  refine ALoop.by (S := Nat) (fun i => [(8, .d (.int .i64 i)), (7, .d (.int .i64 l.length)), (0, .d (.sl (l.map enc))), (1, .fn (.func k) fx fy)]) (fun _ => H) (fun i => l.length - i) (fun i => i ≤ l.length ∧ idx p (l.drop i) i = idx p l 0) 0 (Nat.le_refl _) (fun _ h => nomatch h) ⟨Nat.zero_le _, rfl⟩ ?_ ?_
  · simp [ForgetTo, EW, VW, BBq, Env.look, pubV]
  · rintro i ⟨hi, hx⟩ hn
    refine AWP.run (fun _ => false) tt_ok (fun _ h => nomatch h) hn rfl ?_
    simp only [go_sem]
    refine Br_split (fun h => ?_) (fun h => ?_) <;> simp only [go_sem, h]
    · have hlt : i < l.length := by simpa using h
      rw [idx_drop p hlt] at hx
      have he1 := (he l[i]).1
      have he2 := (he l[i]).2
      simp only [go_sem, he1] at he2
      rw [idx_nat, List.getElem?_map, List.getElem?_eq_getElem hlt]
      simp only [go_sem, he1, he2]
      refine hf _ (List.getElem_mem hlt) _ ?_
      simp only [go_sem]
      refine Br_split (fun h => ?_) (fun h => ?_) <;> simp only [go_sem, h]
      · rw [h] at hx
        simp only [if_true] at hx
        rw [hx]; assumption
      · rw [h] at hx
        simp only [Bool.false_eq_true, if_false] at hx
        exact ⟨i + 1, ⟨hlt, hx⟩, by omega, by simp [ForgetTo, EW, VW, BBq, Env.look, pubV, w64 (n := (i : Int) + 1) (by omega) (by omega)]⟩
    · have hlt : ¬ i < l.length := by simpa using h
      have : l.drop i = [] := List.drop_eq_nil_of_le (by omega)
      rw [this] at hx
      simp only [idx] at hx
      rw [hx]; assumption

theorem c71 {α : Type} {enc : α → D} (he : Enc 1 (Tt 9) enc) {H : Heap} {Q : V → Heap → Prop} (l : List α) (hl : l.length ≤ 4294967296) (k : Nat) (fx fy : List V) (p : α → Bool) (hf : ∀ x ∈ l, ∀ Q, Q (.d (.bool (p x))) H → ACallV prog (.fn (.func k) fx fy) [.d (enc x)] H Q) (h : Q (.d (.bool (l.any p))) H) :
    ACalls prog 71 [.d (.sl (l.map enc)), .fn (.func k) fx fy] H Q := by
  refine ACalls.run (fun _ => false) tt_ok (fn := f71) (rs := [.tmp 4]) rfl rfl rfl rfl rfl rfl rfl ?_
  simp only [go_sem]
  refine c102 he l hl k fx fy p hf ?_
  simp only [go_sem]
  rw [idx_ge p l 0 (by omega)]
  exact h

theorem c103 {α : Type} {enc : α → D} (he : Enc 3 (Tt 60) enc) {H : Heap} {Q : V → Heap → Prop} (l : List α) (hl : l.length ≤ 4294967296) (k : Nat) (fx fy : List V) (p : α → Bool) (hf : ∀ x ∈ l, ∀ Q, Q (.d (.bool (p x))) H → ACallV prog (.fn (.func k) fx fy) [.d (enc x)] H Q) (h : Q (.d (.int .i64 (idx p l 0))) H) :
    ACalls prog 103 [.d (.sl (l.map enc)), .fn (.func k) fx fy] H Q := by
  refine ACalls.run (fun _ => false) tt_ok (fn := f103) (rs := [.tmp 4]) rfl rfl rfl rfl rfl rfl rfl ?_
  simp only [go_sem]
  refine ALoop.by (S := Nat) (fun i => [(8, .d (.int .i64 i)), (7, .d (.int .i64 l.length)), (0, .d (.sl (l.map enc))), (1, .fn (.func k) fx fy)]) (fun _ => H) (fun i => l.length - i) (fun i => i ≤ l.length ∧ idx p (l.drop i) i = idx p l 0) 0 (Nat.le_refl _) (fun _ h => nomatch h) ⟨Nat.zero_le _, rfl⟩ ?_ ?_
  · simp [ForgetTo, EW, VW, BBq, Env.look, pubV]
  · rintro i ⟨hi, hx⟩ hn
    refine AWP.run (fun _ => false) tt_ok (fun _ h => nomatch h) hn rfl ?_
    simp only [go_sem]
    refine Br_split (fun h => ?_) (fun h => ?_) <;> simp only [go_sem, h]
    · have hlt : i < l.length := by simpa using h
      rw [idx_drop p hlt] at hx
      have he1 := (he l[i]).1
      have he2 := (he l[i]).2
      simp only [go_sem, he1] at he2
      rw [idx_nat, List.getElem?_map, List.getElem?_eq_getElem hlt]
      simp only [go_sem, he1, he2]
      refine hf _ (List.getElem_mem hlt) _ ?_
      simp only [go_sem]
      refine Br_split (fun h => ?_) (fun h => ?_) <;> simp only [go_sem, h]
      · rw [h] at hx
        simp only [if_true] at hx
        rw [hx]; assumption
      · rw [h] at hx
        simp only [Bool.false_eq_true, if_false] at hx
        exact ⟨i + 1, ⟨hlt, hx⟩, by omega, by simp [ForgetTo, EW, VW, BBq, Env.look, pubV, w64 (n := (i : Int) + 1) (by omega) (by omega)]⟩
    · have hlt : ¬ i < l.length := by simpa using h
      have : l.drop i = [] := List.drop_eq_nil_of_le (by omega)
      rw [this] at hx
      simp only [idx] at hx
      rw [hx]; assumption

theorem c73 {α : Type} {enc : α → D} (he : Enc 3 (Tt 60) enc) {H : Heap} {Q : V → Heap → Prop} (l : List α) (hl : l.length ≤ 4294967296) (k : Nat) (fx fy : List V) (p : α → Bool) (hf : ∀ x ∈ l, ∀ Q, Q (.d (.bool (p x))) H → ACallV prog (.fn (.func k) fx fy) [.d (enc x)] H Q) (h : Q (.d (.bool (l.any p))) H) :
    ACalls prog 73 [.d (.sl (l.map enc)), .fn (.func k) fx fy] H Q := by
  refine ACalls.run (fun _ => false) tt_ok (fn := f73) (rs := [.tmp 4]) rfl rfl rfl rfl rfl rfl rfl ?_
  simp only [go_sem]
  refine c103 he l hl k fx fy p hf ?_
  simp only [go_sem]
  rw [idx_ge p l 0 (by omega)]
  exact h

theorem c133 {α : Type} {enc : α → D} (he : Enc 3 (Tt 62) enc) {H : Heap} {Q : V → Heap → Prop} (l : List α) (hl : l.length ≤ 4294967296) (k : Nat) (fx fy : List V) (p : α → Bool) (hf : ∀ x ∈ l, ∀ Q, Q (.d (.bool (p x))) H → ACallV prog (.fn (.func k) fx fy) [.d (enc x)] H Q) (h : Q (.d (.int .i64 (idx p l 0))) H) :
    ACalls prog 133 [.d (.sl (l.map enc)), .fn (.func k) fx fy] H Q := by
  refine ACalls.run (fun _ => false) tt_ok (fn := f133) (rs := [.tmp 4]) rfl rfl rfl rfl rfl rfl rfl ?_
  simp only [go_sem]
  refine ALoop.by (S := Nat) (fun i => [(8, .d (.int .i64 i)), (7, .d (.int .i64 l.length)), (0, .d (.sl (l.map enc))), (1, .fn (.func k) fx fy)]) (fun _ => H) (fun i => l.length - i) (fun i => i ≤ l.length ∧ idx p (l.drop i) i = idx p l 0) 0 (Nat.le_refl _) (fun _ h => nomatch h) ⟨Nat.zero_le _, rfl⟩ ?_ ?_
  · simp [ForgetTo, EW, VW, BBq, Env.look, pubV]
  · rintro i ⟨hi, hx⟩ hn
    refine AWP.run (fun _ => false) tt_ok (fun _ h => nomatch h) hn rfl ?_
    simp only [go_sem]
    refine Br_split (fun h => ?_) (fun h => ?_) <;> simp only [go_sem, h]
    · have hlt : i < l.length := by simpa using h
      rw [idx_drop p hlt] at hx
      have he1 := (he l[i]).1
      have he2 := (he l[i]).2
      simp only [go_sem, he1] at he2
      rw [idx_nat, List.getElem?_map, List.getElem?_eq_getElem hlt]
      simp only [go_sem, he1, he2]
      refine hf _ (List.getElem_mem hlt) _ ?_
      simp only [go_sem]
      refine Br_split (fun h => ?_) (fun h => ?_) <;> simp only [go_sem, h]
      · rw [h] at hx
        simp only [if_true] at hx
        rw [hx]; assumption
      · rw [h] at hx
        simp only [Bool.false_eq_true, if_false] at hx
        exact ⟨i + 1, ⟨hlt, hx⟩, by omega, by simp [ForgetTo, EW, VW, BBq, Env.look, pubV, w64 (n := (i : Int) + 1) (by omega) (by omega)]⟩
    · have hlt : ¬ i < l.length := by simpa using h
      have : l.drop i = [] := List.drop_eq_nil_of_le (by omega)
      rw [this] at hx
      simp only [idx] at hx
      rw [hx]; assumption

theorem c119 {α : Type} {enc : α → D} (he : Enc 3 (Tt 62) enc) {H : Heap} {Q : V → Heap → Prop} (l : List α) (hl : l.length ≤ 4294967296) (k : Nat) (fx fy : List V) (p : α → Bool) (hf : ∀ x ∈ l, ∀ Q, Q (.d (.bool (p x))) H → ACallV prog (.fn (.func k) fx fy) [.d (enc x)] H Q) (h : Q (.d (.bool (l.any p))) H) :
    ACalls prog 119 [.d (.sl (l.map enc)), .fn (.func k) fx fy] H Q := by
  refine ACalls.run (fun _ => false) tt_ok (fn := f119) (rs := [.tmp 4]) rfl rfl rfl rfl rfl rfl rfl ?_
  simp only [go_sem]
  refine c133 he l hl k fx fy p hf ?_
  simp only [go_sem]
  rw [idx_ge p l 0 (by omega)]
  exact h

theorem c134 {α : Type} {enc : α → D} (he : Enc 2 (Tt 89) enc) {H : Heap} {Q : V → Heap → Prop} (l : List α) (hl : l.length ≤ 4294967296) (k : Nat) (fx fy : List V) (p : α → Bool) (hf : ∀ x ∈ l, ∀ Q, Q (.d (.bool (p x))) H → ACallV prog (.fn (.func k) fx fy) [.d (enc x)] H Q) (h : Q (.d (.int .i64 (idx p l 0))) H) :
    ACalls prog 134 [.d (.sl (l.map enc)), .fn (.func k) fx fy] H Q := by
  refine ACalls.run (fun _ => false) tt_ok (fn := f134) (rs := [.tmp 4]) rfl rfl rfl rfl rfl rfl rfl ?_
  simp only [go_sem]
  refine ALoop.by (S := Nat) (fun i => [(8, .d (.int .i64 i)), (7, .d (.int .i64 l.length)), (0, .d (.sl (l.map enc))), (1, .fn (.func k) fx fy)]) (fun _ => H) (fun i => l.length - i) (fun i => i ≤ l.length ∧ idx p (l.drop i) i = idx p l 0) 0 (Nat.le_refl _) (fun _ h => nomatch h) ⟨Nat.zero_le _, rfl⟩ ?_ ?_
  · simp [ForgetTo, EW, VW, BBq, Env.look, pubV]
  · rintro i ⟨hi, hx⟩ hn
    refine AWP.run (fun _ => false) tt_ok (fun _ h => nomatch h) hn rfl ?_
    simp only [go_sem]
    refine Br_split (fun h => ?_) (fun h => ?_) <;> simp only [go_sem, h]
    · have hlt : i < l.length := by simpa using h
      rw [idx_drop p hlt] at hx
      have he1 := (he l[i]).1
      have he2 := (he l[i]).2
      simp only [go_sem, he1] at he2
      rw [idx_nat, List.getElem?_map, List.getElem?_eq_getElem hlt]
      simp only [go_sem, he1, he2]
      refine hf _ (List.getElem_mem hlt) _ ?_
      simp only [go_sem]
      refine Br_split (fun h => ?_) (fun h => ?_) <;> simp only [go_sem, h]
      · rw [h] at hx
        simp only [if_true] at hx
        rw [hx]; assumption
      · rw [h] at hx
        simp only [Bool.false_eq_true, if_false] at hx
        exact ⟨i + 1, ⟨hlt, hx⟩, by omega, by simp [ForgetTo, EW, VW, BBq, Env.look, pubV, w64 (n := (i : Int) + 1) (by omega) (by omega)]⟩
    · have hlt : ¬ i < l.length := by simpa using h
      have : l.drop i = [] := List.drop_eq_nil_of_le (by omega)
      rw [this] at hx
      simp only [idx] at hx
      rw [hx]; assumption

theorem c123 {α : Type} {enc : α → D} (he : Enc 2 (Tt 89) enc) {H : Heap} {Q : V → Heap → Prop} (l : List α) (hl : l.length ≤ 4294967296) (k : Nat) (fx fy : List V) (p : α → Bool) (hf : ∀ x ∈ l, ∀ Q, Q (.d (.bool (p x))) H → ACallV prog (.fn (.func k) fx fy) [.d (enc x)] H Q) (h : Q (.d (.bool (l.any p))) H) :
    ACalls prog 123 [.d (.sl (l.map enc)), .fn (.func k) fx fy] H Q := by
  refine ACalls.run (fun _ => false) tt_ok (fn := f123) (rs := [.tmp 4]) rfl rfl rfl rfl rfl rfl rfl ?_
  simp only [go_sem]
  refine c134 he l hl k fx fy p hf ?_
  simp only [go_sem]
  rw [idx_ge p l 0 (by omega)]
  exact h

theorem c101 {n a b : Int} {i j : Nat} {H : Heap} {Q : V → Heap → Prop} (h0 : H[i]? = some (.cells [.d (.int .i64 a)])) (h1 : H[j]? = some (.cells [.d (.int .i64 b)])) (h : Q (.d (.bool (decide (n < a) || decide (b < n)))) H) :
    ACalls prog 101 [.d (.int .i64 n), .ptr i 0, .ptr j 0] H Q := by
  refine ACalls.run (fun _ => false) tt_ok (fn := f101) (rs := [.tmp 4]) rfl rfl rfl rfl rfl rfl rfl ?_
  simp only [go_sem, h0, h1]
  refine Br_split (fun hc => ?_) (fun hc => ?_) <;> simp only [go_sem, h0, h1, hc]
  · rw [hc] at h; exact h
  · rw [hc] at h; exact h

def within (a b : Int) (l : List Int) : Bool := !l.any fun n => decide (n < a) || decide (b < n)

theorem within_all {a b : Int} {l : List Int} : within a b l = true ↔ ∀ n ∈ l, a ≤ n ∧ n ≤ b := by
  simp only [within, Bool.not_eq_true', ← Bool.not_eq_true, List.any_eq_true, Bool.or_eq_true, decide_eq_true_eq, not_exists, not_and, not_or]
  exact ⟨fun h n hn => by have := h n hn; omega, fun h n hn => by have := h n hn; omega⟩

theorem within_one {a b n : Int} : within a b [n] = true ↔ a ≤ n ∧ n ≤ b := by simp [within_all]
theorem within1 (a b n : Int) : within a b [n] = decide (a ≤ n ∧ n ≤ b) := by rw [Bool.eq_iff_iff, within_one, decide_eq_true_eq]

theorem enc_int : Enc 1 (Tt 3) (D.int .i64) := fun x => ⟨rfl, rfl⟩
theorem enc_str : Enc 1 (Tt 9) D.str := fun x => ⟨rfl, rfl⟩
theorem enc_chg : Enc 3 (Tt 60) Chg.d := fun x => ⟨rfl, rfl⟩

theorem c70 (a b : Int) (l : List Int) (hl : l.length ≤ 4294967296) : PC prog 70 [.d (.int .i64 a), .d (.int .i64 b), .d (.sl (l.map (.int .i64)))] (.d (.bool (within a b l))) := by
  refine PC.run (fun _ => false) tt_ok (fn := f70) (rs := [.tmp 6]) rfl rfl rfl rfl rfl rfl rfl ?_
  simp only [go_sem]
  refine ACallV.of rfl (c100 enc_int l hl 101 [] [.ptr 0 0, .ptr 1 0] (fun n => decide (n < a) || decide (b < n)) (fun x _ Q h => ACallV.of rfl (c101 rfl rfl h)) ?_)
  simp only [go_sem, within]

theorem c77 (n : Int) : PC prog 77 [.d (.int .i64 n)] (.d (.bool (within 0 1000 [n]))) := by
  refine PC.run (fun _ => false) tt_ok (fn := f77) (rs := [.tmp 2]) rfl rfl rfl rfl rfl rfl rfl ?_
  simp only [go_sem]
  refine (c70 0 1000 [n] (by simp)).call rfl rfl rfl ?_
  simp only [go_sem]

/-! ### Letters of a name -/

theorem decode_lt {s : ByteArray} {i : Nat} (h : (s.get! i).toNat < 128) : Utf8.decode s i = ((s.get! i).toNat, 1) := by
  simp only [Utf8.decode, Nat.add_zero]
  rw [if_pos h]

theorem decode_ge {s : ByteArray} {i : Nat} (h : 128 ≤ (s.get! i).toNat) : 128 ≤ (Utf8.decode s i).1 := by
  simp only [Utf8.decode, Nat.add_zero, Utf8.runeError]
  rw [if_neg (by omega)]
  split
  · split
    · rename_i hc; exact hc
    · simp
  · split
    · split
      · rename_i hc; simp only [ge_iff_le, Bool.and_eq_true, decide_eq_true_eq] at hc; simp only; omega
      · simp
    · split
      · split
        · rename_i hc; simp only [ge_iff_le, Bool.and_eq_true, decide_eq_true_eq] at hc; simp only; omega
        · simp
      · simp

theorem get_data {s : ByteArray} {i : Nat} (h : i < s.size) : s.get! i = s.data.toList[i]'(by simpa using h) := by
  rw [ByteArray.get!]
  simp [getElem!_def, Array.getElem?_eq_getElem (show i < s.data.size from h)]

/-- The letters up to a place. -/
def lettersTo (s : ByteArray) (i : Nat) : Bool := (s.data.toList.take i).all letter

theorem lettersTo_succ {s : ByteArray} {i : Nat} (h : i < s.size) : lettersTo s (i + 1) = (lettersTo s i && letter (s.get! i)) := by
  rw [lettersTo, List.take_succ_eq_append_getElem (by simpa using h), List.all_append, get_data h]; simp [lettersTo]

theorem nm_no {s : ByteArray} {i : Nat} (h : i < s.size) (hl : letter (s.get! i) = false) : nm s = false := by
  rw [nm, Bool.and_eq_false_iff]
  left
  rw [List.all_eq_false]
  exact ⟨s.get! i, by rw [get_data h]; exact List.getElem_mem _, by rw [hl]; simp⟩

theorem nm_end {s : ByteArray} (h : lettersTo s s.size = true) : nm s = decide (1 ≤ (s.size : Int) ∧ (s.size : Int) ≤ 10) := by
  have : s.data.toList.all letter = true := by
    rw [lettersTo, List.take_of_length_le (by simp)] at h; exact h
  rw [nm, this, Bool.true_and, Bool.eq_iff_iff, Bool.and_eq_true, decide_eq_true_eq, decide_eq_true_eq, decide_eq_true_eq]
  omega

theorem c67 (s : ByteArray) (hs : s.size ≤ 4294967296) : PC prog 67 [.d (.str s)] (.d (.bool (nm s))) := by
  refine PC.run (fun _ => false) tt_ok (fn := f67) (rs := [.tmp 2]) rfl rfl rfl rfl rfl rfl rfl ?_
  simp only [go_sem]
  refine ALoop.by (S := Nat) (fun i => [(6, .obj 0), (0, .d (.str s))]) (fun i => [.obj (.sit s i)]) (fun i => s.size - i) (fun i => i ≤ s.size ∧ lettersTo s i = true) 0 (Nat.zero_le _) (fun _ h => nomatch h) ⟨Nat.zero_le _, rfl⟩ ?_ ?_
  · exact ForgetTo.same' (Nat.zero_le _) (by simp [EWe, Env.look]) rfl
  rintro i ⟨hi, hli⟩ hn
  refine AWP.run (fun _ => false) tt_ok (fun _ h => nomatch h) (Nat.zero_le _) rfl ?_
  have e97 : (97 : Int) = ((97 : Nat) : Int) := rfl
  by_cases hlt : i < s.size
  · have hd : decide (i < s.size) = true := by simpa using hlt
    by_cases h8 : (s.get! i).toNat < 128
    · have hdc := decode_lt h8
      have hls := lettersTo_succ hlt
      have hno := nm_no hlt
      rw [hli, Bool.true_and] at hls
      have hlet : letter (s.get! i) = (decide (97 ≤ (s.get! i).toNat) && decide ((s.get! i).toNat ≤ 122)) := rfl
      generalize (s.get! i).toNat = b at *
      generalize letter (s.get! i) = L at *
      simp only [go_sem, hd, hdc]
      cases d1 : decide ((b : Int) < 97) with
      | true =>
        have : decide (97 ≤ b) = false := by simp only [decide_eq_true_eq, decide_eq_false_iff_not] at d1 ⊢; omega
        rw [this, Bool.false_and] at hlet
        simp only [go_sem, d1]
        rw [hno hlet]
      | false =>
        have h97 : decide (97 ≤ b) = true := by simp only [decide_eq_true_eq, decide_eq_false_iff_not] at d1 ⊢; omega
        cases d2 : decide ((122 : Int) < b) with
        | true =>
          have : decide (b ≤ 122) = false := by simp only [decide_eq_true_eq, decide_eq_false_iff_not] at d2 ⊢; omega
          rw [this, Bool.and_false] at hlet
          simp only [go_sem, d1, d2]
          rw [hno hlet]
        | false =>
          have h122 : decide (b ≤ 122) = true := by simp only [decide_eq_true_eq, decide_eq_false_iff_not] at d2 ⊢; omega
          rw [h97, h122] at hlet
          simp only [go_sem, d1, d2]
          refine ⟨i + 1, ⟨hlt, by rw [hls, hlet]; rfl⟩, by omega, ?_⟩
          exact ForgetTo.same' (Nat.zero_le _) (by simp [EWe, Env.look]) (by simp)
    · have hge := decode_ge (s := s) (i := i) (by omega)
      have hno : nm s = false := nm_no hlt (by rw [letter, show decide ((s.get! i).toNat ≤ 122) = false from decide_eq_false (by omega), Bool.and_false])
      generalize hc : Utf8.decode s i = dc at *
      obtain ⟨c, wd⟩ := dc
      simp only at hge
      have d1 : decide ((c : Int) < 97) = false := decide_eq_false (by omega)
      have d2 : decide ((122 : Int) < c) = true := decide_eq_true (by omega)
      simp only [go_sem, hd, d1, d2, hc]
      rw [hno]
  · have hie : i = s.size := by omega
    subst hie
    have hd : decide (s.size < s.size) = false := by simp
    simp only [go_sem, hd]
    refine (c70 1 10 [(s.size : Int)] (by simp)).call rfl rfl rfl ?_
    simp only [go_sem]
    rw [nm_end hli, ← within1]

def chgW (n : Int) (c : Chg) : Bool := within 1 1000 [c.at'] && within 0 (IntKind.i64.wrap (n - 1)) [c.st] && nm c.name

theorem chgW_eq {n : Nat} (hn : n ≤ 1000000) (c : Chg) : chgW n c = chgOk n c := by
  have hw : IntKind.i64.wrap ((n : Int) - 1) = (n : Int) - 1 := w64 (by omega) (by omega)
  rw [chgW, chgOk, hw, within1, within1]
  congr 2
  rw [Bool.eq_iff_iff, decide_eq_true_eq, decide_eq_true_eq]; omega

theorem c69 (c : Chg) (n : Int) (hs : c.name.size ≤ 4294967296) : PC prog 69 [.d c.d, .d (.int .i64 n)] (.d (.bool (chgW n c))) := by
  refine PC.run (fun _ => false) tt_ok (fn := f69) (rs := [.tmp 4]) rfl rfl rfl rfl rfl rfl rfl ?_
  simp only [go_sem, Chg.d]
  refine (c70 1 1000 [c.at'] (by simp)).call rfl rfl rfl ?_
  cases h1 : within 1 1000 [c.at'] with
  | false => simp only [go_sem, chgW, h1, Bool.false_and]
  | true =>
    simp only [go_sem]
    refine (c70 0 (IntKind.i64.wrap (n - 1)) [c.st] (by simp)).call rfl rfl rfl ?_
    cases h2 : within 0 (IntKind.i64.wrap (n - 1)) [c.st] with
    | false => simp only [go_sem, chgW, h1, h2, Bool.and_false, Bool.false_and]
    | true =>
      simp only [go_sem]
      refine (c67 c.name hs).call rfl rfl rfl ?_
      simp only [go_sem, chgW, h1, h2, Bool.true_and]

theorem c66 (s : ByteArray) (hs : s.size ≤ 4294967296) : PC prog 66 [.d (.str s)] (.d (.bool (!nm s))) := by
  refine PC.run (fun _ => false) tt_ok (fn := f66) (rs := [.tmp 2]) rfl rfl rfl rfl rfl rfl rfl ?_
  simp only [go_sem]
  refine (c67 s hs).call rfl rfl rfl ?_
  simp only [go_sem]
end Go.Aw
end

section
set_option maxRecDepth 100000
namespace Go.Aw
open Go Go.Proofs.Tryz

section
variable {α : Type} [DecidableEq α]

def bump (x : α) : List (α × Nat) → List (α × Nat)
  | [] => [(x, 1)]
  | (a, n) :: r => if x = a then (x, n + 1) :: r else (a, n) :: bump x r

def getM (x : α) : List (α × Nat) → Nat
  | [] => 0
  | (a, n) :: r => if x = a then n else getM x r

def cntM (l : List α) : List (α × Nat) := l.foldl (fun M x => bump x M) []

theorem cntM_snoc (l : List α) (x : α) : cntM (l ++ [x]) = bump x (cntM l) := by rw [cntM, List.foldl_append]; rfl

theorem getM_bump (x y : α) : ∀ M : List (α × Nat), getM y (bump x M) = getM y M + if y = x then 1 else 0
  | [] => by simp [bump, getM]
  | (a, n) :: r => by
    rw [bump]
    by_cases h : x = a
    · rw [if_pos h, getM, getM]
      subst h
      by_cases hy : y = x
      · rw [if_pos hy, if_pos hy, if_pos hy]
      · rw [if_neg hy, if_neg hy, if_neg hy, Nat.add_zero]
    · rw [if_neg h, getM, getM, getM_bump x y r]
      by_cases hy : y = a
      · rw [if_pos hy, if_pos hy, if_neg (fun e => h (e.symm.trans hy)), Nat.add_zero]
      · rw [if_neg hy, if_neg hy]

theorem getM_cnt (y : α) (l : List α) : getM y (cntM l) = cntL y l := by
  induction l using snoc_ind with
  | h0 => rfl
  | h1 l x ih => rw [cntM_snoc, getM_bump, ih, cntL_snoc]

def mapM (enc : α → D) (M : List (α × Nat)) : List (D × D) := M.map fun p => (enc p.1, .int .i64 p.2)

def KeyOk (enc : α → D) : Prop := ∀ x y, keq (enc x) (enc y) = some (decide (x = y))

theorem map_look {enc : α → D} (hk : KeyOk enc) (x : α) : ∀ M : List (α × Nat), lookF (mfind (enc x) (mapM enc M)) false (.int .i64 0) = some (.d (.int .i64 (getM x M)))
  | [] => rfl
  | (a, n) :: r => by
    have e := hk x a
    simp only [mapM, List.map_cons, mfind, e, getM]
    by_cases h : x = a
    · rw [if_pos h, decide_eq_true h]; rfl
    · rw [if_neg h, decide_eq_false h]
      exact map_look hk x r

theorem map_put {enc : α → D} (hk : KeyOk enc) (x : α) : ∀ M : List (α × Nat), mput (enc x) (.int .i64 ((getM x M + 1 : Nat) : Int)) (mapM enc M) = some (mapM enc (bump x M))
  | [] => rfl
  | (a, n) :: r => by
    have e := hk x a
    simp only [mapM, List.map_cons, mput, e, getM, bump]
    by_cases h : x = a
    · rw [if_pos h, if_pos h, decide_eq_true h, h]; rfl
    · have ih := map_put hk x r
      simp only [mapM] at ih
      rw [if_neg h, if_neg h, decide_eq_false h, ih]; rfl
end

theorem keyI : KeyOk (D.int .i64) := fun x y => by simp only [keq, if_true]; congr 1
theorem keyS : KeyOk D.str := fun x y => by simp only [keq, beq_str]

/-- A list of numbers that is nil if it is empty. -/
def lvI (l : List Int) : V :=
  match l with
  | [] => .slx (some true) []
  | x :: r => .d (.sl ((x :: r).map (.int .i64)))

def natI (l : List Nat) : List Int := l.map fun (n : Nat) => (n : Int)

/-- Those up to a place. -/
def twTo {α : Type} [DecidableEq α] [Inhabited α] (l : List α) (i : Nat) : List Int := natI ((List.range i).filter fun i => decide (1 < cntL (l.getD i default) l))

theorem twTo_len {α : Type} [DecidableEq α] [Inhabited α] (l : List α) (i : Nat) : (twTo l i).length ≤ i := by
  have := List.length_filter_le (fun i => decide (1 < cntL (l.getD i default) l)) (List.range i)
  simp only [twTo, natI, List.length_map]
  simpa using this

theorem twTo_succ {α : Type} [DecidableEq α] [Inhabited α] (l : List α) (i : Nat) :
    twTo l (i + 1) = twTo l i ++ if 1 < cntL (l.getD i default) l then [(i : Int)] else [] := by
  rw [twTo, twTo, natI, natI, List.range_succ, List.filter_append]
  rw [List.map_append]
  congr 1
  rw [List.filter_cons, List.filter_nil]
  by_cases h : 1 < cntL (l.getD i default) l
  · rw [if_pos h, decide_eq_true h]; rfl
  · rw [if_neg h, decide_eq_false h]; rfl

def outV (l : List Int) : V :=
  match l with
  | [] => .slx (some true) []
  | x :: r => .ref 1 (r.length + 1) 0 (r.length + 1)
def outH (l : List Int) : Heap :=
  match l with
  | [] => []
  | x :: r => [.arr 1 false ((x :: r).map (.int .i64))]

theorem c72 (l : List ByteArray) (hl : l.length ≤ 1000) : PC prog 72 [.d (.sl (l.map (D.str)))] (lvI (natI (twinsP l))) := by
  refine PC.run (fun k => k == 34) tt_ok (fn := f72) (rs := [.tmp 2]) rfl rfl rfl rfl rfl rfl rfl ?_
  simp only [go_sem, List.length_map]
  refine ALoop.by (S := Nat) (fun i => [(11, .d (.int .i64 i)), (10, .d (.int .i64 l.length)), (9, .d (.sl (l.map (D.str)))), (3, .obj 0), (2, .slx (some true) []), (0, .d (.sl (l.map (D.str))))])
    (fun i => [.obj (.map (mapM (D.str) (cntM (l.take i))))]) (fun i => l.length - i) (fun i => i ≤ l.length) 0 (Nat.zero_le _) (fun _ h => nomatch h) (Nat.zero_le _) ?_ ?_
  · exact ForgetTo.same' (Nat.zero_le _) (by simp [EWe, Env.look]) rfl
  · rintro i hi hn
    refine AWP.run (fun k => k == 34) tt_ok (fun _ h => nomatch h) (Nat.zero_le _) rfl ?_
    simp only [go_sem, List.length_map]
    refine Br_split (fun hd => ?_) (fun hd => ?_) <;> simp only [go_sem, hd]
    · have hlt : i < l.length := by simpa using hd
      have hix : idx? (l.map (D.str)) (i : Int) = some (D.str l[i]) := by simp [idx?, List.getElem?_eq_getElem hlt]
      have hst : cntM (l.take (i + 1)) = bump l[i] (cntM (l.take i)) := by rw [List.take_succ_eq_append_getElem hlt, cntM_snoc]
      have hlk := map_look (keyS) l[i] (cntM (l.take i))
      have hpt := map_put (keyS) l[i] (cntM (l.take i))
      have hgc := getM_cnt l[i] (l.take i)
      have hcl := cntL_le l[i] (l.take i)
      have hgl : getM l[i] (cntM (l.take i)) ≤ 1000 := by rw [hgc]; have : (l.take i).length ≤ l.length := List.length_take_le' i l; omega
      have hnx : IntKind.i64.wrap ((i : Int) + 1) = (i : Int) + 1 := w64 (by omega) (by omega)
      clear hgc hcl
      generalize cntM (l.take i) = M at *
      generalize l[i] = x at *
      generalize getM x M = n at *
      have hw : IntKind.i64.wrap ((n : Int) + 1) = ((n + 1 : Nat) : Int) := by rw [w64 (by omega) (by omega)]; omega
      simp only [go_sem, hix, hlk, hw, hpt]
      refine ⟨i + 1, hlt, by omega, ?_⟩
      exact ForgetTo.same' (Nat.zero_le _) (by simp [EWe, Env.look, hnx]) (by simp [hst])
    · have hie : i = l.length := by simp only [decide_eq_false_iff_not] at hd; omega
      subst hie
      rw [List.take_length]
      simp only [go_sem, List.length_map]
      refine ALoop.by (S := Nat) (fun i => [(22, .d (.int .i64 i)), (21, .d (.int .i64 l.length)), (20, .d (.sl (l.map (D.str)))), (3, .obj 0), (2, outV (twTo l i))])
        (fun i => .obj (.map (mapM (D.str) (cntM l))) :: outH (twTo l i)) (fun i => l.length - i) (fun i => i ≤ l.length) 0 (Nat.zero_le _) (fun _ h => nomatch h) (Nat.zero_le _) ?_ ?_
      · exact ForgetTo.same' (Nat.zero_le _) (by simp [EWe, Env.look, twTo, natI, outV]) (by simp [twTo, natI, outH])
      rintro i hi hn
      refine AWP.run (fun k => k == 34) tt_ok (fun _ h => nomatch h) (Nat.zero_le _) rfl ?_
      simp only [go_sem, List.length_map]
      refine Br_split (fun hd => ?_) (fun hd => ?_) <;> simp only [go_sem, hd]
      · have hlt : i < l.length := by simpa using hd
        have hix : idx? (l.map (D.str)) (i : Int) = some (D.str l[i]) := by simp [idx?, List.getElem?_eq_getElem hlt]
        have hst := twTo_succ l i
        have hlk := map_look (keyS) l[i] (cntM l)
        rw [getM_cnt] at hlk
        rw [getDG hlt] at hst
        have htl := twTo_len l i
        have hnx : IntKind.i64.wrap ((i : Int) + 1) = (i : Int) + 1 := w64 (by omega) (by omega)
        generalize l[i] = x at *
        generalize cntM l = M at *
        generalize twTo l i = tw at *
        simp only [go_sem, hix, hlk]
        cases d1 : decide ((1 : Int) < (cntL x l : Nat)) with
        | true =>
          have h1 : 1 < cntL x l := by simp only [decide_eq_true_eq] at d1; omega
          rw [if_pos h1] at hst
          cases tw with
          | nil =>
            simp only [go_sem, d1, outV, outH]
            refine ⟨i + 1, hlt, by omega, ?_⟩
            exact ForgetTo.same' (Nat.zero_le _) (by simp [EWe, Env.look, hnx, hst, outV]) (by simp [hst, outH])
          | cons y r =>
            have hr1 : decide (r.length ≤ 4294967294) = true := by simp only [decide_eq_true_eq, List.length_cons] at htl ⊢; omega
            have hln : ((y :: r).map (D.int .i64)).length = r.length + 1 := by simp
            generalize hY : (y :: r).map (D.int .i64) = Y at *
            simp only [go_sem, d1, outV, outH, hln, hr1]
            refine ⟨i + 1, hlt, by omega, ?_⟩
            exact ForgetTo.same' (Nat.zero_le _) (by simp [EWe, Env.look, hnx, hst, outV]) (by simp [hst, outH, ← hY])
        | false =>
          have h1 : ¬ 1 < cntL x l := by simp only [decide_eq_false_iff_not] at d1; omega
          rw [if_neg h1, List.append_nil] at hst
          simp only [go_sem, d1]
          refine ⟨i + 1, hlt, by omega, ?_⟩
          exact ForgetTo.same' (Nat.zero_le _) (by simp [EWe, Env.look, hnx, hst]) (by simp [hst])
      · have hie : i = l.length := by simp only [decide_eq_false_iff_not] at hd; omega
        subst hie
        have htw : twTo l l.length = natI (twinsP l) := rfl
        rw [htw]
        cases natI (twinsP l) with
        | nil => simp only [go_sem, outV, outH, lvI]
        | cons y r =>
          have hln : ((y :: r).map (D.int .i64)).length = r.length + 1 := by simp
          have htk : ((y :: r).map (D.int .i64)).take (r.length + 1) = (y :: r).map (D.int .i64) := List.take_of_length_le (by simp)
          simp only [outV, outH, lvI]
          generalize (y :: r).map (D.int .i64) = Y at *
          simp only [go_sem, hln, htk]

theorem c109 (l : List Int) (hl : l.length ≤ 1000) : PC prog 109 [.d (.sl (l.map (D.int .i64)))] (lvI (natI (twinsP l))) := by
  refine PC.run (fun k => k == 34) tt_ok (fn := f109) (rs := [.tmp 2]) rfl rfl rfl rfl rfl rfl rfl ?_
  simp only [go_sem, List.length_map]
  refine ALoop.by (S := Nat) (fun i => [(11, .d (.int .i64 i)), (10, .d (.int .i64 l.length)), (9, .d (.sl (l.map (D.int .i64)))), (3, .obj 0), (2, .slx (some true) []), (0, .d (.sl (l.map (D.int .i64))))])
    (fun i => [.obj (.map (mapM (D.int .i64) (cntM (l.take i))))]) (fun i => l.length - i) (fun i => i ≤ l.length) 0 (Nat.zero_le _) (fun _ h => nomatch h) (Nat.zero_le _) ?_ ?_
  · exact ForgetTo.same' (Nat.zero_le _) (by simp [EWe, Env.look]) rfl
  · rintro i hi hn
    refine AWP.run (fun k => k == 34) tt_ok (fun _ h => nomatch h) (Nat.zero_le _) rfl ?_
    simp only [go_sem, List.length_map]
    refine Br_split (fun hd => ?_) (fun hd => ?_) <;> simp only [go_sem, hd]
    · have hlt : i < l.length := by simpa using hd
      have hix : idx? (l.map (D.int .i64)) (i : Int) = some (D.int .i64 l[i]) := by simp [idx?, List.getElem?_eq_getElem hlt]
      have hst : cntM (l.take (i + 1)) = bump l[i] (cntM (l.take i)) := by rw [List.take_succ_eq_append_getElem hlt, cntM_snoc]
      have hlk := map_look (keyI) l[i] (cntM (l.take i))
      have hpt := map_put (keyI) l[i] (cntM (l.take i))
      have hgc := getM_cnt l[i] (l.take i)
      have hcl := cntL_le l[i] (l.take i)
      have hgl : getM l[i] (cntM (l.take i)) ≤ 1000 := by rw [hgc]; have : (l.take i).length ≤ l.length := List.length_take_le' i l; omega
      have hnx : IntKind.i64.wrap ((i : Int) + 1) = (i : Int) + 1 := w64 (by omega) (by omega)
      clear hgc hcl
      generalize cntM (l.take i) = M at *
      generalize l[i] = x at *
      generalize getM x M = n at *
      have hw : IntKind.i64.wrap ((n : Int) + 1) = ((n + 1 : Nat) : Int) := by rw [w64 (by omega) (by omega)]; omega
      simp only [go_sem, hix, hlk, hw, hpt]
      refine ⟨i + 1, hlt, by omega, ?_⟩
      exact ForgetTo.same' (Nat.zero_le _) (by simp [EWe, Env.look, hnx]) (by simp [hst])
    · have hie : i = l.length := by simp only [decide_eq_false_iff_not] at hd; omega
      subst hie
      rw [List.take_length]
      simp only [go_sem, List.length_map]
      refine ALoop.by (S := Nat) (fun i => [(22, .d (.int .i64 i)), (21, .d (.int .i64 l.length)), (20, .d (.sl (l.map (D.int .i64)))), (3, .obj 0), (2, outV (twTo l i))])
        (fun i => .obj (.map (mapM (D.int .i64) (cntM l))) :: outH (twTo l i)) (fun i => l.length - i) (fun i => i ≤ l.length) 0 (Nat.zero_le _) (fun _ h => nomatch h) (Nat.zero_le _) ?_ ?_
      · exact ForgetTo.same' (Nat.zero_le _) (by simp [EWe, Env.look, twTo, natI, outV]) (by simp [twTo, natI, outH])
      rintro i hi hn
      refine AWP.run (fun k => k == 34) tt_ok (fun _ h => nomatch h) (Nat.zero_le _) rfl ?_
      simp only [go_sem, List.length_map]
      refine Br_split (fun hd => ?_) (fun hd => ?_) <;> simp only [go_sem, hd]
      · have hlt : i < l.length := by simpa using hd
        have hix : idx? (l.map (D.int .i64)) (i : Int) = some (D.int .i64 l[i]) := by simp [idx?, List.getElem?_eq_getElem hlt]
        have hst := twTo_succ l i
        have hlk := map_look (keyI) l[i] (cntM l)
        rw [getM_cnt] at hlk
        rw [getDG hlt] at hst
        have htl := twTo_len l i
        have hnx : IntKind.i64.wrap ((i : Int) + 1) = (i : Int) + 1 := w64 (by omega) (by omega)
        generalize l[i] = x at *
        generalize cntM l = M at *
        generalize twTo l i = tw at *
        simp only [go_sem, hix, hlk]
        cases d1 : decide ((1 : Int) < (cntL x l : Nat)) with
        | true =>
          have h1 : 1 < cntL x l := by simp only [decide_eq_true_eq] at d1; omega
          rw [if_pos h1] at hst
          cases tw with
          | nil =>
            simp only [go_sem, d1, outV, outH]
            refine ⟨i + 1, hlt, by omega, ?_⟩
            exact ForgetTo.same' (Nat.zero_le _) (by simp [EWe, Env.look, hnx, hst, outV]) (by simp [hst, outH])
          | cons y r =>
            have hr1 : decide (r.length ≤ 4294967294) = true := by simp only [decide_eq_true_eq, List.length_cons] at htl ⊢; omega
            have hln : ((y :: r).map (D.int .i64)).length = r.length + 1 := by simp
            generalize hY : (y :: r).map (D.int .i64) = Y at *
            simp only [go_sem, d1, outV, outH, hln, hr1]
            refine ⟨i + 1, hlt, by omega, ?_⟩
            exact ForgetTo.same' (Nat.zero_le _) (by simp [EWe, Env.look, hnx, hst, outV]) (by simp [hst, outH, ← hY])
        | false =>
          have h1 : ¬ 1 < cntL x l := by simp only [decide_eq_false_iff_not] at d1; omega
          rw [if_neg h1, List.append_nil] at hst
          simp only [go_sem, d1]
          refine ⟨i + 1, hlt, by omega, ?_⟩
          exact ForgetTo.same' (Nat.zero_le _) (by simp [EWe, Env.look, hnx, hst]) (by simp [hst])
      · have hie : i = l.length := by simp only [decide_eq_false_iff_not] at hd; omega
        subst hie
        have htw : twTo l l.length = natI (twinsP l) := rfl
        rw [htw]
        cases natI (twinsP l) with
        | nil => simp only [go_sem, outV, outH, lvI]
        | cons y r =>
          have hln : ((y :: r).map (D.int .i64)).length = r.length + 1 := by simp
          have htk : ((y :: r).map (D.int .i64)).take (r.length + 1) = (y :: r).map (D.int .i64) := List.take_of_length_le (by simp)
          simp only [outV, outH, lvI]
          generalize (y :: r).map (D.int .i64) = Y at *
          simp only [go_sem, hln, htk]
end Go.Aw
end

section
set_option maxRecDepth 100000
namespace Go.Aw
open Go Go.Proofs.Tryz

def townB (t : Town) : Blk := .cells [.d (.sl (t.first.map .str)), .d (.sl (t.ch.map Chg.d))]

/-- A town that is not too long. -/
structure Town.Small (t : Town) : Prop where
  f : t.first.length ≤ 100
  c : t.ch.length ≤ 100
  fn : ∀ s ∈ t.first, s.size ≤ 1000
  cn : ∀ c ∈ t.ch, c.name.size ≤ 1000

theorem c68 (t : Town) (c : Chg) (hs : c.name.size ≤ 1000) {Q : V → Heap → Prop} (h : Q (.d (.bool (!chgW t.first.length c))) [townB t]) : ACalls prog 68 [.d c.d, .ptr 0 0] [townB t] Q := by
  refine ACalls.run (fun _ => false) tt_ok (fn := f68) (rs := [.tmp 3]) rfl rfl rfl rfl rfl rfl rfl ?_
  simp only [go_sem, townB, Chg.d, List.length_map]
  refine (c69 c t.first.length (by omega)).call rfl rfl rfl ?_
  simp only [go_sem]
  exact h

theorem lvI_len0 (es : Nat) (z : D) (H : Heap) (l : List Int) : alen (.sl es z) H (lvI l) = some l.length := by
  cases l <;> simp [lvI, alen_slx, alen_d]

theorem c17 (t : Town) (hs : t.Small) : PC prog 17 [.d t.d] (.d (.int .i64 (checkT t))) := by
  have h1 := hs.f
  have h2 := hs.c
  refine PC.run (fun _ => false) tt_ok (fn := f17) (rs := [.tmp 2]) rfl rfl rfl rfl rfl rfl rfl ?_
  have hw : within 1 6 [(t.first.length : Int)] = (decide (1 ≤ t.first.length) && decide (t.first.length ≤ 6)) := by
    rw [within1, Bool.eq_iff_iff, Bool.and_eq_true, decide_eq_true_eq, decide_eq_true_eq, decide_eq_true_eq]; omega
  simp only [go_sem, Town.d, List.length_map]
  refine (c70 1 6 [(t.first.length : Int)] (by simp)).call rfl rfl rfl ?_
  rw [hw]
  cases ha : (decide (1 ≤ t.first.length) && decide (t.first.length ≤ 6)) with
  | false => simp only [go_sem, checkT, ha, Bool.not_false, Bool.true_or, if_true]
  | true =>
    simp only [go_sem]
    refine ACallV.of rfl (c71 enc_str t.first (by omega) 66 [] [] (fun s => !nm s) (fun s hm Q h => (c66 s (by have := hs.fn s hm; omega)).call rfl rfl rfl h) ?_)
    cases hb : t.first.any (fun s => !nm s) with
    | true => simp only [go_sem, checkT, ha, hb, Bool.or_true, if_true]
    | false =>
      simp only [go_sem]
      refine (c72 t.first (by omega)).call rfl rfl (by cases natI (twinsP t.first) <;> rfl) ?_
      simp only [go_sem, lvI_len0]
      cases hc : decide ((0 : Int) < (natI (twinsP t.first)).length) with
      | true =>
        have : twinsP t.first ≠ [] := fun e => by rw [e] at hc; simp [natI] at hc
        simp only [go_sem, checkT, ha, hb, if_pos this, Bool.not_true, Bool.or_false, Bool.false_eq_true, if_false]
      | false =>
        have h0 : ¬ twinsP t.first ≠ [] := fun e => by
          simp only [natI, List.length_map, decide_eq_false_iff_not] at hc
          have := List.length_pos_iff.2 e
          omega
        simp only [go_sem, List.length_map]
        cases hd : decide ((8 : Int) < t.ch.length) with
        | true =>
          have : t.ch.length > 8 := by simp only [decide_eq_true_eq] at hd; omega
          simp only [go_sem, checkT, ha, hb, if_neg h0, if_pos this, Bool.not_true, Bool.or_false, Bool.false_eq_true, if_false]
        | false =>
          have h8 : ¬ t.ch.length > 8 := by simp only [decide_eq_false_iff_not] at hd; omega
          simp only [go_sem]
          refine ACallV.of rfl (c73 enc_chg t.ch (by omega) 68 [] [.ptr 0 0] (fun c => !chgW t.first.length c) (fun c hm Q h => ACallV.of rfl (c68 t c (hs.cn c hm) h)) ?_)
          have he : t.ch.any (fun c => !chgW t.first.length c) = t.ch.any (fun c => !chgOk t.first.length c) := by
            congr 1; funext c; rw [chgW_eq (by omega)]
          rw [he]
          cases hf : t.ch.any (fun c => !chgOk t.first.length c) with
          | true => simp only [go_sem, checkT, ha, hb, hf, if_neg h0, if_neg h8, Bool.not_true, Bool.or_false, Bool.false_eq_true, if_false, if_true]
          | false => simp only [go_sem, checkT, ha, hb, hf, if_neg h0, if_neg h8, Bool.not_true, Bool.or_false, Bool.false_eq_true, if_false]
end Go.Aw
end

section
set_option maxRecDepth 100000
namespace Go.Aw
open Go Go.Proofs.Tryz

section
variable {n : Nat} {Hs : Heap} (hn : Hs.length = n)
include hn
theorem hy0 (Y : Heap) : (Hs ++ Y)[n]? = Y[0]? := by rw [List.getElem?_append_right (by omega), hn, Nat.sub_self]
theorem hy1 (Y : Heap) : (Hs ++ Y)[n + 1]? = Y[1]? := by rw [List.getElem?_append_right (by omega), hn]; congr 1; omega
theorem hs0 (Y : Heap) (X : Blk) : (Hs ++ Y).set n X = Hs ++ Y.set 0 X := by rw [List.set_append_right _ _ (by omega), hn, Nat.sub_self]
theorem hs1 (Y : Heap) (X : Blk) : (Hs ++ Y).set (n + 1) X = Hs ++ Y.set 1 X := by rw [List.set_append_right _ _ (by omega), hn]; congr 2; omega
theorem hs2 (Y : Heap) (X : Blk) : (Hs ++ Y).set (n + 2) X = Hs ++ Y.set 2 X := by rw [List.set_append_right _ _ (by omega), hn]; congr 2; omega
theorem htk (Y : Heap) : (Hs ++ Y).take n = Hs := by rw [← hn]; simp
theorem hyl (Y : Heap) : (Hs ++ Y).length = n + Y.length := by simp [hn]
end

/-- A call of yield with more blocks behind. -/
theorem yield_frame {yv : V} {n : Nat} {I : List (List V) → Heap → Prop} {Q : V → Heap → Prop} (hyv : VB n yv = true) (hI : ∀ l H, I l H → H.length = n ∧ BBs n H)
    (hy : ∀ a r H, I (a :: r) H → ACallV prog yv a H (fun v H' => (v = .d (.bool true) ∧ I r H') ∨ (v = .d (.bool false) ∧ H'.length = n ∧ BBs n H' ∧ Q (.tup []) H')))
    {a : List V} {r : List (List V)} {H : Heap} (X : Heap) (ha : VBs n a = true) (h : I (a :: r) H) :
    ACallV prog yv a (H ++ X) (fun v H' => ∃ H1, H' = H1 ++ X ∧ H1.length = n ∧ BBs n H1 ∧ ((v = .d (.bool true) ∧ I r H1) ∨ (v = .d (.bool false) ∧ Q (.tup []) H1))) := by
  obtain ⟨hl, hb⟩ := hI _ _ h
  refine (ACallV.frame (fun id x hx => BB_le (by omega) (BBs_get hb id x hx)) (by rw [hl]; exact hyv) (by rw [hl]; exact ha) (fun v H' hv => ?_) (hy _ _ _ h)).mono ?_
  · rcases hv with ⟨_, k⟩ | ⟨_, k, _⟩
    · rw [(hI _ _ k).1, hl]
    · rw [k, hl]
  · rintro v H' ⟨H1, rfl, ⟨k1, k2⟩ | ⟨k1, k2, k3, k4⟩⟩
    · exact ⟨H1, rfl, (hI _ _ k2).1, (hI _ _ k2).2, .inl ⟨k1, k2⟩⟩
    · exact ⟨H1, rfl, k2, k3, .inr ⟨k1, k4⟩⟩


def valV (l : List Chg) : V := .fn (.func 126) [] [.pp [.sl (l.map Chg.d)]]
def chgB (c : Chg) : Blk := .cells [.d (.int .i64 c.at'), .d (.int .i64 c.st), .d (.str c.name)]
def chgI (c : Chg) : List V := [.d c.d]

theorem c105 (l : List Chg) : PC prog 105 [.d (.sl (l.map Chg.d))] (valV l) := by
  refine PC.run (fun _ => false) tt_ok (fn := f105) (rs := [.tmp 2]) rfl rfl rfl rfl rfl rfl rfl ?_
  simp only [go_sem, valV]

theorem c126 (l : List Chg) (hl : l.length ≤ 1000) : Iter prog (valV l) (l.map chgI) := by
  intro yv n I Q hf hyv hI hy hend H hH
  have hHl := (hI _ _ hH).1
  have hHb := (hI _ _ hH).2
  obtain ⟨f, x, y, rfl⟩ := hf
  refine ACallV.of rfl ?_
  refine ACalls.run (fun _ => false) tt_ok (fn := f126) (rs := []) rfl rfl rfl rfl rfl rfl rfl ?_
  simp only [go_sem, valV, hHl, List.length_map]
  refine ALoop.by (S := Nat × Heap) (fun s => [(7, .d (.int .i64 s.1)), (6, .d (.int .i64 l.length)), (5, .d (.sl (l.map Chg.d))), (0, .fn f x y)]) (fun s => s.2 ++ (l.take s.1).map chgB) (fun s => l.length - s.1)
    (fun s => s.1 ≤ l.length ∧ I ((l.drop s.1).map chgI) s.2) (0, H) (by simp [hHl]) (fun _ h => nomatch h) ⟨Nat.zero_le _, hH⟩ ?_ ?_
  · exact ForgetTo.same' (by simp [hHl]) (by simp [EWe, Env.look]) (by simp)
  rintro ⟨i, Hc⟩ ⟨hi, hI0⟩ hn'
  dsimp only at hi hI0 hn' ⊢
  have hcl := (hI _ _ hI0).1
  have hcb := (hI _ _ hI0).2
  have hGl : ∀ H1 : Heap, H1.length = n → (H1 ++ (l.take i).map chgB).length = n + i := fun H1 h => by simp [h]; omega
  refine AWP.run (fun _ => false) tt_ok (fun _ h => nomatch h) (by simp [hcl]; omega) rfl ?_
  simp only [go_sem]
  refine Br_split (fun hd => ?_) (fun hd => ?_) <;> simp only [go_sem, hd]
  · have hlt : i < l.length := by simpa using hd
    have hix : idx? (l.map Chg.d) (i : Int) = some (l[i]).d := by simp [idx?, List.getElem?_eq_getElem hlt]
    have hst : (l.take (i + 1)).map chgB = (l.take i).map chgB ++ [chgB l[i]] := by rw [List.take_succ_eq_append_getElem hlt, List.map_append]; rfl
    rw [List.drop_eq_getElem_cons hlt, List.map_cons] at hI0
    have hnx : IntKind.i64.wrap ((i : Int) + 1) = (i : Int) + 1 := w64 (by omega) (by omega)
    generalize l[i] = c at *
    generalize (l.take i).map chgB = G at *
    simp only [go_sem, hix, Chg.d, hGl Hc hcl, hy0 (hGl Hc hcl), hs0 (hGl Hc hcl)]
    have hyf := yield_frame hyv hI hy (r := (l.drop (i + 1)).map chgI) (G ++ [chgB c]) (by simp [chgI, VBs, VB]) hI0
    rw [← List.append_assoc] at hyf
    refine hyf.mono ?_
    rintro v H' ⟨H1, rfl, k1, k2, k3⟩
    rcases k3 with ⟨rfl, k3⟩ | ⟨rfl, k3⟩
    · simp only [go_sem]
      refine ⟨(i + 1, H1), ⟨hlt, k3⟩, by simp only; omega, ?_⟩
      exact ForgetTo.same' (by simp [k1]; omega) (by simp [EWe, Env.look, hnx]) (by simp [hst])
    · simp only [go_sem]
      rw [hHl, ← k1, List.take_left]
      exact ⟨.inr (by rw [k1]; exact k2), k3⟩
  · have hie : i = l.length := by simp only [decide_eq_false_iff_not] at hd; omega
    subst hie
    rw [List.drop_length] at hI0
    rw [hHl, ← hcl, List.take_left]
    exact ⟨.inr (by rw [hcl]; exact hcb), hend _ hI0⟩
end Go.Aw
end

section
set_option maxRecDepth 100000
namespace Go.Aw
open Go Go.Proofs.Tryz

theorem PCr.call' {P : Program} {f : FuncId} {vs : List V} {B : Heap} {v : V} {ar : List V} {x y : List V} {H : Heap} {Q : V → Heap → Prop} (h : PCr P f vs B v) (hB : B.all noLoop = true) (h1 : x ++ ar ++ y = vs) (h2 : VBs 0 vs = true) (hq : Q (shV H.length v) (H ++ B.map (shB H.length))) : ACallV P (.fn (.func f) x y) ar H Q := by
  subst h1
  refine ACalls.mono (ACalls.sh hB h2 h) ?_
  rintro v' H' ⟨rfl, rfl⟩
  exact hq

def gotB (l : List Chg) : Blk := .arr 3 (decide (l.length = 0)) (l.map Chg.d)
def gotH (l : List Chg) : Heap := [.cells [.ref 1 l.length 0 l.length], gotB l]

theorem sized_chg (l : List Chg) : sized 3 (l.map Chg.d) = true := by simp [sized, Chg.d, dcells]

theorem c135 (l : List Chg) (hl : l.length ≤ 1000) : PCr prog 135 [.slx (some true) [], valV l] (gotH l) (.ref 1 l.length 0 l.length) := by
  refine PCr.of_body tt_ok (fn := f135) (rs := [.tmp 4]) 2 rfl rfl rfl rfl rfl rfl ?_
  refine AWP.run (fun _ => false) tt_ok (fun _ h => nomatch h) (Nat.zero_le _) rfl ?_
  simp only [go_sem, valV]
  change AWP _ _ _ _ _ _ _ _
  refine AWP.nilrow 0 0 3 rfl rfl (Nat.zero_le _) ?_
  refine ARng.iter (items := l.map chgI) (J := fun rest Hc => ∃ i, i ≤ l.length ∧ rest = (l.drop i).map chgI ∧ Hc = [.cells [.ref 1 i 0 i], .arr 3 (decide (i = 0)) ((l.take i).map Chg.d)])
    (Nat.zero_le _) (fun _ h => nomatch h) rfl (c126 l hl) rfl rfl ?_ ?_ ?_ ?_ ?_
  · rintro rest Hc ⟨i, _, _, rfl⟩
    simp [BBs, BB, VBs, VB]
  · exact ⟨0, Nat.zero_le _, rfl, by simp⟩
  · rintro Hc ⟨i, hi, hr, rfl⟩
    have hie : i = l.length := by
      have := congrArg List.length hr
      simp at this; omega
    subst hie
    rw [List.take_length]
    simp only [go_sem, gotH, gotB]
  · intro xs hxs
    obtain ⟨c, _, rfl⟩ := List.mem_map.1 hxs
    rfl
  · rintro L L' xs rest Hc hxs ⟨i, hi, hr, rfl⟩
    have hlt : i < l.length := by
      rcases Nat.lt_or_ge i l.length with h | h
      · exact h
      · rw [List.drop_eq_nil_of_le h] at hr; cases hr
    have hst : (l.take (i + 1)).map Chg.d = (l.take i).map Chg.d ++ [l[i].d] := by rw [List.take_succ_eq_append_getElem hlt, List.map_append]; rfl
    have hln : ((l.take i).map Chg.d).length = i := by simp; omega
    rw [List.drop_eq_getElem_cons hlt, List.map_cons] at hr
    obtain ⟨rfl, rfl⟩ := List.cons.inj hr
    have hi2 : decide (i ≤ 4294967295) = true := by simp only [decide_eq_true_eq]; omega
    have fin : ∃ j, j ≤ l.length ∧ (l.drop (i + 1)).map chgI = (l.drop j).map chgI ∧ [Blk.cells [.ref 1 (i + 1) 0 (i + 1)], .arr 3 false ((l.take i).map Chg.d ++ [l[i].d])] = [.cells [.ref 1 j 0 j], .arr 3 (decide (j = 0)) ((l.take j).map Chg.d)] := ⟨i + 1, hlt, rfl, by rw [hst]; simp⟩
    generalize l[i] = c at *
    generalize (l.take i).map Chg.d = M at *
    refine AWP.run (fun _ => false) tt_ok (fun _ h => by cases h; exact Nat.lt_succ_self _) (by simp) rfl ?_
    simp only [go_sem, chgI, Chg.d]
    refine AWP.run (fun _ => false) tt_ok (fun _ h => by cases h; exact Nat.lt_succ_self _) (by simp) rfl ?_
    simp only [go_sem, hln, hi2]
    rw [List.isEmpty_cons, Bool.and_false]
    exact fin

theorem c124 (l : List Chg) (hl : l.length ≤ 1000) : PCr prog 124 [valV l] (gotH l) (.ref 1 l.length 0 l.length) := by
  refine PCr.of_body tt_ok (fn := f124) (rs := [.tmp 2]) 2 rfl rfl rfl rfl rfl rfl ?_
  refine AWP.run (fun _ => false) tt_ok (fun _ h => nomatch h) (Nat.zero_le _) rfl ?_
  simp only [go_sem, valV]
  refine (c135 l hl).call' rfl rfl rfl ?_
  simp only [go_sem, gotH, gotB]
end Go.Aw
end

section
set_option maxRecDepth 100000
namespace Go.Aw
open Go Go.Proofs.Tryz

def cmpI (x y : Int) : Int := if x < y then -1 else if x > y then 1 else 0
theorem cmpI_lt (x y : Int) : decide (cmpI x y < 0) = decide (x < y) := by
  unfold cmpI
  split
  · simp_all
  · split <;> simp_all <;> omega

theorem c127 (n : Int) : PC prog 127 [.d (.int .i64 n)] (.d (.bool false)) := by
  refine PC.run (fun _ => false) tt_ok (fn := f127) (rs := [.tmp 2]) rfl rfl rfl rfl rfl rfl rfl ?_
  simp only [go_sem]

theorem c107 (x y : Int) : PC prog 107 [.d (.int .i64 x), .d (.int .i64 y)] (.d (.int .i64 (cmpI x y))) := by
  refine PC.run (fun _ => false) tt_ok (fn := f107) (rs := [.tmp 4]) rfl rfl rfl rfl rfl rfl rfl ?_
  simp only [go_sem]
  refine (c127 x).call rfl rfl rfl ?_
  simp only [go_sem]
  refine (c127 y).call rfl rfl rfl ?_
  simp only [go_sem]
  refine Br_split (fun h1 => ?_) (fun h1 => ?_) <;> simp only [go_sem, h1]
  · have h1' : x < y := by simpa using h1
    simp [cmpI, h1']
  · have h1' : ¬ x < y := by simpa using h1
    refine Br_split (fun h2 => ?_) (fun h2 => ?_) <;> simp only [go_sem, h2]
    · have h2' : x > y := by simpa using h2
      simp [cmpI, h1', h2']
    · have h2' : ¬ x > y := by simpa using h2
      simp only [cmpI, h1', h2', if_false]

theorem c106 (x y : Chg) : PC prog 106 [.d x.d, .d y.d] (.d (.int .i64 (cmpI x.at' y.at'))) := by
  refine PC.run (fun _ => false) tt_ok (fn := f106) (rs := [.tmp 4]) rfl rfl rfl rfl rfl rfl rfl ?_
  simp only [go_sem, Chg.d]
  refine (c107 x.at' y.at').call rfl rfl rfl ?_
  simp only [go_sem]

def ltC (x y : Chg) : Bool := decide (x.at' < y.at')
theorem ltC_ok : LtOk ltC := ⟨fun a b h => by simp only [ltC, decide_eq_true_eq, decide_eq_false_iff_not] at h ⊢; omega, fun a b c h1 h2 => by simp only [ltC, decide_eq_false_iff_not] at h1 h2 ⊢; omega⟩

/-- A row of changes. -/
def hC (X : Blk) (nl : Bool) (l : List Chg) : Heap := [X, .arr 3 nl (l.map Chg.d)]

theorem c156 {X : Blk} {nl : Bool} {n : Nat} {l : List Chg} (hl : l.length = n) (hn : n ≤ 1000)
    {Q : V → Heap → Prop} (hq : Q (.tup []) (hC X nl (isortG ltC l (n - 1)))) : ACalls prog 156 [.ref 1 n 0 n, .d (.int .i64 0), .d (.int .i64 n), .fn (.func 106) [] []] (hC X nl l) Q := by
  refine ACalls.run (fun _ => false) tt_ok (fn := f156) (rs := []) rfl rfl rfl rfl rfl rfl rfl ?_
  simp only [go_sem, hC]
  refine ALoop.by (S := Nat) (fun i => [(8, .d (.int .i64 ((i + 1 : Nat)))), (0, .ref 1 n 0 n), (1, .d (.int .i64 0)), (2, .d (.int .i64 n)), (3, .fn (.func 106) [] [])]) (fun i => hC X nl (isortG ltC l i)) (fun i => n - i) (fun i => i + 1 ≤ n ∨ i = 0) 0 (Nat.le_refl _) (fun _ h => nomatch h) (.inr rfl) ?_ ?_
  · exact ForgetTo.same' (by simp) (by simp [EWe, Env.look, w64 (n := 1) (by omega) (by omega)]) (by simp [hC, isortG])
  · rintro i hi hn'
    have hil : (isortG ltC l i).length = n := by rw [isortG_len, hl]
    refine AWP.run (fun _ => false) tt_ok (fun _ h => nomatch h) (by simp [hC]) rfl ?_
    simp only [go_sem, hC]
    refine Br_split (fun hd => ?_) (fun hd => ?_) <;> simp only [go_sem, hd]
    · have hlt1 : i + 1 < n := by simpa [-Int.natCast_add] using hd
      refine ALoop.by (S := Nat × List Chg) (fun s => [(9, .d (.int .i64 s.1)), (8, .d (.int .i64 ((i + 1 : Nat)))), (0, .ref 1 n 0 n), (1, .d (.int .i64 0)), (2, .d (.int .i64 n)), (3, .fn (.func 106) [] [])]) (fun s => hC X nl s.2) (fun s => s.1)
        (fun s => s.1 < n ∧ s.2.length = n ∧ sinkG ltC s.1 s.2 = sinkG ltC (i + 1) (isortG ltC l i)) (i + 1, isortG ltC l i) (by simp [hC]) (fun _ h => nomatch h) ⟨hlt1, hil, rfl⟩ ?_ ?_
      · exact ForgetTo.same' (by simp) (by simp [EWe, Env.look]) (by simp [hC])
      · rintro ⟨j, l'⟩ ⟨hj, hl', hsk⟩ hn2
        simp only at hj hl' hsk hn2 ⊢
        have next : sinkG ltC j l' = l' → isortG ltC l (i + 1) = l' := fun h => by rw [isortG_succ, ← hsk, h]
        have hln : (l'.map Chg.d).length = n := by simp [hl']
        refine AWP.run (fun _ => false) tt_ok (fun _ h => nomatch h) (by simp [hC]) rfl ?_
        simp only [go_sem, hC]
        refine ADrw.treeG (fun _ => false) tt_ok (by kernel_rfl) (fun k => if k = 7 ∨ k = 8 ∨ k = 12 ∨ k = 13 then some .L else some .S) (.ones [0, 1, 2, 3, 4, 5, 6, 7, 8, 9, 10, 11, 12, 13, 14, 15, 16] .done) (by simp) (fun _ h => nomatch h) rfl rfl (by kernel_rfl) ?_
        cases j with
        | zero =>
          have h0 : decide (((0 : Nat) : Int) > 0) = false := rfl
          simp only [go_sem, h0]
          refine ⟨i + 1, .inl hlt1, by omega, ?_⟩
          rw [next rfl]
          exact ForgetTo.same' (by simp) (by simp [EWe, Env.look, w64 (n := (i : Int) + 1 + 1) (by omega) (by omega)]) (by simp)
        | succ j =>
          have h0 : decide (((j + 1 : Nat) : Int) > 0) = true := decide_eq_true (by omega)
          have hw : IntKind.i64.wrap (((j + 1 : Nat) : Int) - 1) = ((j : Nat) : Int) := by rw [w64 (by omega) (by omega)]; omega
          have c1 : (0 : Int) ≤ ((j + 1 : Nat) : Int) := by omega
          have c2 : ((j + 1 : Nat) : Int) < (n : Int) := by omega
          have c3 : (0 : Int) ≤ ((j : Nat) : Int) := by omega
          have c4 : ((j : Nat) : Int) < (n : Int) := by omega
          have hj1 : j + 1 < l'.length := by omega
          have hj0 : j < l'.length := by omega
          have hM1 : (l'.map Chg.d)[j + 1]? = some l'[j + 1].d := by simp [List.getElem?_eq_getElem hj1]
          have hM0 : (l'.map Chg.d)[j]? = some l'[j].d := by simp [List.getElem?_eq_getElem hj0]
          have hset : ((l'.set (j + 1) l'[j]).set j l'[j + 1]).map Chg.d = ((l'.map Chg.d).set (j + 1) l'[j].d).set j l'[j + 1].d := by simp [List.map_set]
          have hsk' : sinkG ltC (j + 1) l' = if ltC l'[j + 1] l'[j] = true then sinkG ltC j ((l'.set (j + 1) l'[j]).set j l'[j + 1]) else l' := by rw [sinkG, getDG hj1, getDG hj0]
          have hlt0 : ltC l'[j + 1] l'[j] = decide (cmpI l'[j + 1].at' l'[j].at' < 0) := by rw [cmpI_lt]; rfl
          have c106a := c106 l'[j + 1] l'[j]
          have hl2 : ((l'.set (j + 1) l'[j]).set j l'[j + 1]).length = n := by simp [hl']
          generalize (l'.set (j + 1) l'[j]).set j l'[j + 1] = l2 at *
          generalize l'[j + 1] = a at *
          generalize l'[j] = b at *
          generalize hM : l'.map Chg.d = M at *
          have hs1 : ∀ x : D, (M.set (j + 1) x)[j]? = M[j]? := fun x => List.getElem?_set_ne (by omega)
          have hs2 : ∀ x : D, (M.set (j + 1) x)[j + 1]? = some x := fun x => List.getElem?_set_self (by omega)
          simp only [go_sem, h0, hln, hw, c1, c2, c3, c4, Int.toNat_natCast, hM1, hM0, Chg.d]
          refine c106a.callS rfl rfl rfl rfl rfl rfl ?_
          simp only [go_sem, h0, hln, hw, c1, c2, c3, c4, Int.toNat_natCast, hM1, hM0, Chg.d]
          cases h2 : decide (cmpI a.at' b.at' < 0) with
          | true =>
            rw [hlt0, h2, if_pos rfl] at hsk'
            simp only [go_sem]
            refine ADrw.treeG (fun _ => false) tt_ok (by kernel_rfl) (fun k => if k = 8 ∨ k = 9 ∨ k = 12 ∨ k = 13 ∨ k = 14 ∨ k = 16 then some .L else if k = 15 ∨ k = 17 then some .W else some .S) (.ones [0, 1, 2, 3, 4, 5, 6, 7, 8, 9, 10, 11, 12, 13, 14, 15, 16, 17] .done) (by simp) (fun _ h => nomatch h) rfl rfl (by kernel_rfl) ?_
            simp only [go_sem, hln, hw, c1, c2, c3, c4, Int.toNat_natCast, hM1, hM0, hs1, hs2, List.length_set, Chg.d]
            refine ⟨(j, l2), ⟨by simp only; omega, hl2, by simp only; rw [← hsk', hsk]⟩, by simp only; omega, ?_⟩
            exact ForgetTo.same' (by simp) (by simp [EWe, Env.look]) (by simp [hset, Chg.d])
          | false =>
            rw [hlt0, h2, if_neg (by simp)] at hsk'
            simp only [go_sem]
            refine ⟨i + 1, .inl hlt1, by omega, ?_⟩
            rw [next hsk', hM]
            exact ForgetTo.same' (by simp) (by simp [EWe, Env.look, w64 (n := (i : Int) + 1 + 1) (by omega) (by omega)]) (by simp)
    · have hlt : ¬ i + 1 < n := by simpa [-Int.natCast_add] using hd
      have hi' : i = n - 1 := by omega
      subst hi'
      simp only [hC] at hq ⊢
      exact hq

theorem c136 {X : Blk} {nl : Bool} {n : Nat} {l : List Chg} (hl : l.length = n) (hn : n < 20)
    {Q : V → Heap → Prop} (hq : Q (.tup []) (hC X nl (sortG ltC l))) : ACalls prog 136 [.ref 1 n 0 n, .d (.int .i64 n), .fn (.func 106) [] []] (hC X nl l) Q := by
  have hs := isortG_sort ltC_ok l
  rw [hl] at hs
  rw [← hs] at hq
  refine ACalls.run (fun _ => false) tt_ok (fn := f136) (rs := []) rfl rfl rfl rfl rfl rfl rfl ?_
  simp only [go_sem, hC]
  have hno : decide ((20 : Int) ≤ (n : Int)) = false := decide_eq_false (by omega)
  have hno' : decide ((20 : Int) < (n : Int)) = false := decide_eq_false (by omega)
  refine ALoop.by (S := Unit) (fun _ => [(6, .d (.int .i64 20)), (7, .d (.int .i64 0)), (8, .d (.int .i64 20)), (0, .ref 1 n 0 n), (1, .d (.int .i64 n)), (2, .fn (.func 106) [] [])]) (fun _ => hC X nl l) (fun _ => 0) (fun _ => True) () (by simp) (fun _ h => nomatch h) trivial ?_ ?_
  · exact ForgetTo.same' (by simp) (by simp [EWe, Env.look]) (by simp [hC])
  · rintro _ _ hn'
    refine AWP.run (fun _ => false) tt_ok (fun _ h => nomatch h) (by simp [hC]) rfl ?_
    simp only [go_sem, hno]
    refine ACallV.of rfl (c156 hl (by omega) ?_)
    simp only [go_sem]
    refine ALoop.by (S := Unit) (fun _ => [(6, .d (.int .i64 20)), (1, .d (.int .i64 n))]) (fun _ => hC X nl (isortG ltC l (n - 1))) (fun _ => 0) (fun _ => True) () (by simp [hC]) (fun _ h => nomatch h) trivial ?_ ?_
    · exact ForgetTo.same' (by simp [hC]) (by simp [EWe, Env.look]) (by simp [hC])
    · rintro _ _ hn'
      refine AWP.run (fun _ => false) tt_ok (fun _ h => nomatch h) (by simp [hC]) rfl ?_
      simp only [go_sem, hno', hC]
      exact hq

theorem c125 {X : Blk} {nl : Bool} {n : Nat} {l : List Chg} (hl : l.length = n) (hn : n < 20)
    {Q : V → Heap → Prop} (hq : Q (.tup []) (hC X nl (sortG ltC l))) : ACalls prog 125 [.ref 1 n 0 n, .fn (.func 106) [] []] (hC X nl l) Q := by
  have hln : (l.map Chg.d).length = n := by simp [hl]
  refine ACalls.run (fun _ => false) tt_ok (fn := f125) (rs := []) rfl rfl rfl rfl rfl rfl rfl ?_
  simp only [go_sem, hC, hln]
  refine ACallV.of rfl (c136 hl hn ?_)
  simp only [go_sem, hC]
  exact hq

theorem c104 (l : List Chg) (hl : l.length < 20) : PC prog 104 [valV l, .fn (.func 106) [] []] (.d (.sl ((sortG ltC l).map Chg.d))) := by
  refine PC.run (fun _ => false) tt_ok (fn := f104) (rs := [.tmp 4]) rfl rfl rfl rfl rfl rfl rfl ?_
  have hsl := sortG_len ltC l
  have htk : ((sortG ltC l).map Chg.d).take l.length = (sortG ltC l).map Chg.d := List.take_of_length_le (by simp [hsl])
  simp only [go_sem, valV]
  refine (c124 l (by omega)).call' rfl rfl rfl ?_
  simp only [go_sem, gotH, gotB]
  refine ACallV.of rfl (c125 rfl hl ?_)
  simp only [go_sem, hC, List.length_map, hsl, htk]
end Go.Aw
end

section
set_option maxRecDepth 100000
namespace Go.Aw
open Go Go.Proofs.Tryz

theorem Som_of {α : Type} {o : Option α} {v : α} {K : α → Prop} (h : o = some v) (hk : K v) : Som o K := by subst h; exact hk

def lenN (n : Nat) : Nat := [0, 1, 2, 2, 3, 3, 3, 3, 4, 4, 4, 4, 4].getD n 0

theorem c147 (n : Nat) (hn : n ≤ 12) : PC prog 147 [.d (.int .u64 n)] (.d (.int .i64 (lenN n))) := by
  refine PC.run (fun _ => false) tt_ok (fn := f147) (rs := [.tmp 2]) rfl rfl rfl rfl rfl rfl rfl ?_
  have d1 : decide ((n : Int) ≥ 4294967296) = false := decide_eq_false (by omega)
  have d2 : decide ((n : Int) ≥ 65536) = false := decide_eq_false (by omega)
  have d3 : decide ((n : Int) ≥ 256) = false := decide_eq_false (by omega)
  have w1 : IntKind.u8.wrap (n : Int) = n := by
    have : n = 0 ∨ n = 1 ∨ n = 2 ∨ n = 3 ∨ n = 4 ∨ n = 5 ∨ n = 6 ∨ n = 7 ∨ n = 8 ∨ n = 9 ∨ n = 10 ∨ n = 11 ∨ n = 12 := by omega
    rcases this with rfl | rfl | rfl | rfl | rfl | rfl | rfl | rfl | rfl | rfl | rfl | rfl | rfl <;> rfl
  simp only [go_sem, d1, d2, d3, w1]
  have : n = 0 ∨ n = 1 ∨ n = 2 ∨ n = 3 ∨ n = 4 ∨ n = 5 ∨ n = 6 ∨ n = 7 ∨ n = 8 ∨ n = 9 ∨ n = 10 ∨ n = 11 ∨ n = 12 := by omega
  rcases this with rfl | rfl | rfl | rfl | rfl | rfl | rfl | rfl | rfl | rfl | rfl | rfl | rfl
  case' inl => refine Som_of (v := .d (.int .u8 0)) (by kernel_rfl) ?_
  case' inr.inl => refine Som_of (v := .d (.int .u8 1)) (by kernel_rfl) ?_
  case' inr.inr.inl => refine Som_of (v := .d (.int .u8 2)) (by kernel_rfl) ?_
  case' inr.inr.inr.inl => refine Som_of (v := .d (.int .u8 2)) (by kernel_rfl) ?_
  case' inr.inr.inr.inr.inl => refine Som_of (v := .d (.int .u8 3)) (by kernel_rfl) ?_
  case' inr.inr.inr.inr.inr.inl => refine Som_of (v := .d (.int .u8 3)) (by kernel_rfl) ?_
  case' inr.inr.inr.inr.inr.inr.inl => refine Som_of (v := .d (.int .u8 3)) (by kernel_rfl) ?_
  case' inr.inr.inr.inr.inr.inr.inr.inl => refine Som_of (v := .d (.int .u8 3)) (by kernel_rfl) ?_
  case' inr.inr.inr.inr.inr.inr.inr.inr.inl => refine Som_of (v := .d (.int .u8 4)) (by kernel_rfl) ?_
  case' inr.inr.inr.inr.inr.inr.inr.inr.inr.inl => refine Som_of (v := .d (.int .u8 4)) (by kernel_rfl) ?_
  case' inr.inr.inr.inr.inr.inr.inr.inr.inr.inr.inl => refine Som_of (v := .d (.int .u8 4)) (by kernel_rfl) ?_
  case' inr.inr.inr.inr.inr.inr.inr.inr.inr.inr.inr.inl => refine Som_of (v := .d (.int .u8 4)) (by kernel_rfl) ?_
  case' inr.inr.inr.inr.inr.inr.inr.inr.inr.inr.inr.inr => refine Som_of (v := .d (.int .u8 4)) (by kernel_rfl) ?_
  all_goals
    simp only [go_sem]
    try rfl

theorem c129 (n : Nat) (hn : n ≤ 12) : PC prog 129 [.d (.int .u64 n)] (.d (.int .i64 (lenN n))) := by
  refine PC.run (fun _ => false) tt_ok (fn := f129) (rs := [.tmp 2]) rfl rfl rfl rfl rfl rfl rfl ?_
  simp only [go_sem]
  refine (c147 n hn).call rfl rfl rfl ?_
  simp only [go_sem]

theorem c143 (x y : Int) : PC prog 143 [.d (.int .i64 x), .d (.int .i64 y)] (.d (.bool (decide (x < y)))) := by
  refine PC.run (fun _ => false) tt_ok (fn := f143) (rs := [.tmp 4]) rfl rfl rfl rfl rfl rfl rfl ?_
  simp only [go_sem]
  refine (c127 x).call rfl rfl rfl ?_
  simp only [go_sem]

def ltI (x y : Int) : Bool := decide (x < y)
theorem ltI_ok : LtOk ltI := ⟨fun a b h => by simp only [ltI, decide_eq_true_eq, decide_eq_false_iff_not] at h ⊢; omega, fun a b c h1 h2 => by simp only [ltI, decide_eq_false_iff_not] at h1 h2 ⊢; omega⟩
def rowB (l : List Int) : Blk := .arr 1 false (l.map (.int .i64))

theorem c137 {H : Heap} {id n : Nat} {l : List Int} (hid : id < H.length) (hl : l.length = n) (hn : n ≤ 1000)
    {Q : V → Heap → Prop} (hq : Q (.tup []) (H.set id (rowB (isortG ltI l (n - 1))))) : ACalls prog 137 [.ref id n 0 n, .d (.int .i64 0), .d (.int .i64 n)] (H.set id (rowB l)) Q := by
  have hg : ∀ b : Blk, (H.set id b)[id]? = some b := fun b => by rw [List.getElem?_set_self hid]
  have hs : ∀ b b' : Blk, (H.set id b).set id b' = H.set id b' := fun b b' => by rw [List.set_set]
  have hHl : ∀ b : Blk, (H.set id b).length = H.length := fun b => by simp
  refine ACalls.run (fun _ => false) tt_ok (fn := f137) (rs := []) rfl rfl rfl rfl rfl rfl rfl ?_
  simp only [go_sem, hHl]
  refine ALoop.by (S := Nat) (fun i => [(6, .d (.int .i64 ((i + 1 : Nat)))), (0, .ref id n 0 n), (1, .d (.int .i64 0)), (2, .d (.int .i64 n))]) (fun i => H.set id (rowB (isortG ltI l i))) (fun i => n - i) (fun i => i + 1 ≤ n ∨ i = 0) 0 (by simp) (fun _ h => nomatch h) (.inr rfl) ?_ ?_
  · exact ForgetTo.same' (by simp) (by simp [EWe, Env.look, w64 (n := 1) (by omega) (by omega)]) (by simp [isortG])
  · rintro i hi hn'
    have hil : (isortG ltI l i).length = n := by rw [isortG_len, hl]
    refine AWP.run (fun _ => false) tt_ok (fun _ h => nomatch h) (by simp) rfl ?_
    simp only [go_sem, hHl]
    refine Br_split (fun hd => ?_) (fun hd => ?_) <;> simp only [go_sem, hd]
    · have hlt1 : i + 1 < n := by simpa [-Int.natCast_add] using hd
      refine ALoop.by (S := Nat × List Int) (fun s => [(7, .d (.int .i64 s.1)), (6, .d (.int .i64 ((i + 1 : Nat)))), (0, .ref id n 0 n), (1, .d (.int .i64 0)), (2, .d (.int .i64 n))]) (fun s => H.set id (rowB s.2)) (fun s => s.1)
        (fun s => s.1 < n ∧ s.2.length = n ∧ sinkG ltI s.1 s.2 = sinkG ltI (i + 1) (isortG ltI l i)) (i + 1, isortG ltI l i) (by simp) (fun _ h => nomatch h) ⟨hlt1, hil, rfl⟩ ?_ ?_
      · exact ForgetTo.same' (by simp) (by simp [EWe, Env.look]) rfl
      · rintro ⟨j, l'⟩ ⟨hj, hl', hsk⟩ hn2
        simp only at hj hl' hsk hn2 ⊢
        have next : sinkG ltI j l' = l' → isortG ltI l (i + 1) = l' := fun h => by rw [isortG_succ, ← hsk, h]
        have hln : (l'.map (D.int .i64)).length = n := by simp [hl']
        refine AWP.run (fun _ => false) tt_ok (fun _ h => nomatch h) (by simp) rfl ?_
        simp only [go_sem, hHl]
        refine ADrw.treeG (fun _ => false) tt_ok (by kernel_rfl) (fun k => if k = 6 ∨ k = 7 ∨ k = 11 ∨ k = 12 then some .L else some .S) (.ones [0, 1, 2, 3, 4, 5, 6, 7, 8, 9, 10, 11, 12, 13, 14] .done) (by simp) (fun _ h => nomatch h) rfl rfl (by kernel_rfl) ?_
        cases j with
        | zero =>
          have h0 : decide (((0 : Nat) : Int) > 0) = false := rfl
          simp only [go_sem, hHl, h0]
          refine ⟨i + 1, .inl hlt1, by omega, ?_⟩
          rw [next rfl]
          exact ForgetTo.same' (by simp) (by simp [EWe, Env.look, w64 (n := (i : Int) + 1 + 1) (by omega) (by omega)]) rfl
        | succ j =>
          have h0 : decide (((j + 1 : Nat) : Int) > 0) = true := decide_eq_true (by omega)
          have hw : IntKind.i64.wrap (((j + 1 : Nat) : Int) - 1) = ((j : Nat) : Int) := by rw [w64 (by omega) (by omega)]; omega
          have c1 : (0 : Int) ≤ ((j + 1 : Nat) : Int) := by omega
          have c2 : ((j + 1 : Nat) : Int) < (n : Int) := by omega
          have c3 : (0 : Int) ≤ ((j : Nat) : Int) := by omega
          have c4 : ((j : Nat) : Int) < (n : Int) := by omega
          have hj1 : j + 1 < l'.length := by omega
          have hj0 : j < l'.length := by omega
          have hM1 : (l'.map (D.int .i64))[j + 1]? = some (.int .i64 l'[j + 1]) := by simp [List.getElem?_eq_getElem hj1]
          have hM0 : (l'.map (D.int .i64))[j]? = some (.int .i64 l'[j]) := by simp [List.getElem?_eq_getElem hj0]
          have hset : ((l'.set (j + 1) l'[j]).set j l'[j + 1]).map (D.int .i64) = ((l'.map (D.int .i64)).set (j + 1) (.int .i64 l'[j])).set j (.int .i64 l'[j + 1]) := by simp [List.map_set]
          have hsk' : sinkG ltI (j + 1) l' = if ltI l'[j + 1] l'[j] = true then sinkG ltI j ((l'.set (j + 1) l'[j]).set j l'[j + 1]) else l' := by rw [sinkG, getDG hj1, getDG hj0]
          have hlt0 : ltI l'[j + 1] l'[j] = decide (l'[j + 1] < l'[j]) := rfl
          have c143a := c143 l'[j + 1] l'[j]
          have hl2 : ((l'.set (j + 1) l'[j]).set j l'[j + 1]).length = n := by simp [hl']
          generalize (l'.set (j + 1) l'[j]).set j l'[j + 1] = l2 at *
          generalize l'[j + 1] = a at *
          generalize l'[j] = b at *
          generalize hM : l'.map (D.int .i64) = M at *
          have hs1 : ∀ x : D, (M.set (j + 1) x)[j]? = M[j]? := fun x => List.getElem?_set_ne (by omega)
          have hs2 : ∀ x : D, (M.set (j + 1) x)[j + 1]? = some x := fun x => List.getElem?_set_self (by omega)
          simp only [go_sem, hHl, hg, hs, rowB, hM, h0, hln, hw, c1, c2, c3, c4, Int.toNat_natCast, hM1, hM0]
          refine c143a.callS rfl rfl rfl rfl rfl rfl ?_
          simp only [go_sem, hHl, hg, hs, rowB, hM, h0, hln, hw, c1, c2, c3, c4, Int.toNat_natCast, hM1, hM0]
          cases h2 : decide (a < b) with
          | true =>
            rw [hlt0, h2, if_pos rfl] at hsk'
            simp only [go_sem]
            refine ADrw.treeG (fun _ => false) tt_ok (by kernel_rfl) (fun k => if k = 8 ∨ k = 9 ∨ k = 12 ∨ k = 13 ∨ k = 14 ∨ k = 16 then some .L else if k = 15 ∨ k = 17 then some .W else some .S) (.ones [0, 1, 2, 3, 4, 5, 6, 7, 8, 9, 10, 11, 12, 13, 14, 15, 16, 17] .done) (by simp) (fun _ h => nomatch h) rfl rfl (by kernel_rfl) ?_
            simp only [go_sem, hHl, hg, hs, hln, hw, c1, c2, c3, c4, Int.toNat_natCast, hM1, hM0, hs1, hs2, List.length_set]
            refine ⟨(j, l2), ⟨by simp only; omega, hl2, by simp only; rw [← hsk', hsk]⟩, by simp only; omega, ?_⟩
            exact ForgetTo.same' (by simp) (by simp [EWe, Env.look]) (by simp [rowB, hset])
          | false =>
            rw [hlt0, h2, if_neg (by simp)] at hsk'
            simp only [go_sem]
            refine ⟨i + 1, .inl hlt1, by omega, ?_⟩
            rw [next hsk']
            exact ForgetTo.same' (by simp) (by simp [EWe, Env.look, w64 (n := (i : Int) + 1 + 1) (by omega) (by omega)]) (by simp [rowB, hM])
    · have hlt : ¬ i + 1 < n := by simpa [-Int.natCast_add] using hd
      have hi' : i = n - 1 := by omega
      subst hi'
      refine ⟨.inl (by simp), ?_⟩
      rw [List.take_of_length_le (by simp)]
      exact hq

theorem c128 {H : Heap} {id n : Nat} {l : List Int} {lim : Int} (hid : id < H.length) (hl : l.length = n) (hn : n ≤ 12)
    {Q : V → Heap → Prop} (hq : Q (.tup []) (H.set id (rowB (sortG ltI l)))) : ACalls prog 128 [.ref id n 0 n, .d (.int .i64 0), .d (.int .i64 n), .d (.int .i64 lim)] (H.set id (rowB l)) Q := by
  have hs := isortG_sort ltI_ok l
  rw [hl] at hs
  rw [← hs] at hq
  have hHl : ∀ b : Blk, (H.set id b).length = H.length := fun b => by simp
  refine ACalls.run (fun _ => false) tt_ok (fn := f128) (rs := []) rfl rfl rfl rfl rfl rfl rfl ?_
  simp only [go_sem, hHl]
  refine ALoop.by (S := Unit) (fun _ => [(9, .d (.bool true)), (8, .d (.bool true)), (3, .d (.int .i64 lim)), (2, .d (.int .i64 n)), (1, .d (.int .i64 0)), (0, .ref id n 0 n)]) (fun _ => H.set id (rowB l)) (fun _ => 0) (fun _ => True) () (by simp) (fun _ h => nomatch h) trivial ?_ ?_
  · exact ForgetTo.same' (by simp) (by simp [EWe, Env.look]) rfl
  rintro _ _ hn'
  have hw : IntKind.i64.wrap ((n : Int) - 0) = n := by rw [w64 (by omega) (by omega)]; omega
  have d1 : decide ((n : Int) ≤ 12) = true := decide_eq_true (by omega)
  refine AWP.run (fun _ => false) tt_ok (fun _ h => nomatch h) (by simp) rfl ?_
  simp only [go_sem, hHl, hw, d1]
  refine ACallV.of rfl (c137 hid hl (by omega) ?_)
  simp only [go_sem]
  refine ⟨.inl (by simp), ?_⟩
  rw [List.take_of_length_le (by simp)]
  exact hq

theorem c110 {H : Heap} {id n : Nat} {l : List Int} (hid : id < H.length) (hl : l.length = n) (hn : n ≤ 12)
    {Q : V → Heap → Prop} (hq : Q (.tup []) (H.set id (rowB (sortG ltI l)))) : ACalls prog 110 [.ref id n 0 n] (H.set id (rowB l)) Q := by
  have hg : ∀ b : Blk, (H.set id b)[id]? = some b := fun b => by rw [List.getElem?_set_self hid]
  have hHl : ∀ b : Blk, (H.set id b).length = H.length := fun b => by simp
  have hln : (l.map (D.int .i64)).length = n := by simp [hl]
  have hw : IntKind.u64.wrap (n : Int) = n := by
    have : n = 0 ∨ n = 1 ∨ n = 2 ∨ n = 3 ∨ n = 4 ∨ n = 5 ∨ n = 6 ∨ n = 7 ∨ n = 8 ∨ n = 9 ∨ n = 10 ∨ n = 11 ∨ n = 12 := by omega
    clear hl hln
    rcases this with rfl | rfl | rfl | rfl | rfl | rfl | rfl | rfl | rfl | rfl | rfl | rfl | rfl <;> rfl
  refine ACalls.run (fun _ => false) tt_ok (fn := f110) (rs := []) rfl rfl rfl rfl rfl rfl rfl ?_
  simp only [go_sem, hHl, hg, rowB, hln, hw]
  refine (c129 n hn).call rfl rfl rfl ?_
  simp only [go_sem]
  refine ACallV.of rfl (c128 hid hl hn ?_)
  simp only [go_sem]
  refine ⟨.inl (by simp), ?_⟩
  rw [List.take_of_length_le (by simp)]
  exact hq
end Go.Aw
end

section
set_option maxRecDepth 100000
namespace Go.Aw
open Go Go.Proofs.Tryz

def newAt (l : List Int) (i : Nat) : Bool := decide (i = 0) || !decide (l.getD i default = l.getD (i - 1) default)
/-- A list up to a place, without what stands right behind its like. -/
def dedP (l : List Int) (p : Nat) : List Int := ((List.range p).filter (newAt l)).map fun i => l.getD i default
def compP (l : List Int) : List Int := dedP l l.length

theorem dedP_succ (l : List Int) (p : Nat) : dedP l (p + 1) = dedP l p ++ if newAt l p = true then [l.getD p default] else [] := by
  rw [dedP, List.range_succ, List.filter_append, List.map_append]
  congr 1
  by_cases h : newAt l p = true
  · rw [if_pos h]; simp [h]
  · rw [if_neg h]; simp [h]

theorem dedP_len (l : List Int) : ∀ p, (dedP l p).length ≤ p
  | 0 => by simp [dedP]
  | p + 1 => by
    have := dedP_len l p
    rw [dedP_succ, List.length_append]
    split <;> simp <;> omega

theorem dedP_all {l : List Int} : ∀ p, p ≤ l.length → (∀ i, i < p → newAt l i = true) → dedP l p = l.take p
  | 0, _, _ => by simp [dedP]
  | p + 1, hp, h => by
    rw [dedP_succ, dedP_all p (by omega) fun i hi => h i (by omega), if_pos (h p (by omega)), List.take_succ_eq_append_getElem (by omega), getDG (by omega)]

theorem c111 {H : Heap} {id n : Nat} {l : List Int} (hid : id < H.length) (hl : l.length = n) (hn : n ≤ 1000)
    {Q : V → Heap → Prop} (hq : Q (.ref id n 0 (compP l).length) (H.set id (rowB (compP l ++ List.replicate (n - (compP l).length) 0)))) : ACalls prog 111 [.ref id n 0 n] (H.set id (rowB l)) Q := by
  have hg : ∀ b : Blk, (H.set id b)[id]? = some b := fun b => by rw [List.getElem?_set_self hid]
  have hs : ∀ b b' : Blk, (H.set id b).set id b' = H.set id b' := fun b b' => by rw [List.set_set]
  have hHl : ∀ b : Blk, (H.set id b).length = H.length := fun b => by simp
  have hln : (l.map (D.int .i64)).length = n := by simp [hl]
  have fin : ∀ (M : List Int) (k : Nat), M.length = n → k ≤ n → M.take k = compP l → M.drop k = List.replicate (n - k) 0 → BBq H.length (H.set id (rowB M)) ∧ Q (.ref id n 0 k) ((H.set id (rowB M)).take H.length) := fun M k h1 h2 h3 h4 => by
    have hk : (compP l).length = k := by rw [← h3, List.length_take]; omega
    have hM : compP l ++ List.replicate (n - (compP l).length) 0 = M := by rw [hk, ← h3, ← h4, List.take_append_drop]
    rw [hM, hk] at hq
    refine ⟨.inl (by simp), ?_⟩
    rw [List.take_of_length_le (by simp)]
    exact hq
  refine ACalls.run (fun _ => false) tt_ok (fn := f111) (rs := [.tmp 2]) rfl rfl rfl rfl rfl rfl rfl ?_
  simp only [go_sem, hHl, hg, rowB, hln]
  simp only [rowB] at fin
  by_cases h2 : n < 2
  · have d1 : decide ((n : Int) < 2) = true := decide_eq_true (by omega)
    have hc : l.take n = compP l := by
      rw [compP, dedP_all l.length (Nat.le_refl _) fun i hi => by rw [newAt, decide_eq_true (show i = 0 by omega)]; rfl, hl]
    simp only [go_sem, d1, hid, if_true]
    exact fin l n hl (Nat.le_refl _) hc (by rw [Nat.sub_self]; simp; omega)
  · have d1 : decide ((n : Int) < 2) = false := decide_eq_false (by omega)
    simp only [go_sem, d1]
    refine ALoop.by (S := Nat) (fun k => [(3, .d (.int .i64 k)), (0, .ref id n 0 n)]) (fun _ => H.set id (.arr 1 false (l.map (.int .i64)))) (fun k => n - k) (fun k => 1 ≤ k ∧ k ≤ n ∧ ∀ i, i < k → newAt l i = true) 1 (by simp) (fun _ h => nomatch h) ⟨Nat.le_refl _, by omega, fun i hi => by rw [newAt, decide_eq_true (show i = 0 by omega)]; rfl⟩ ?_ ?_
    · exact ForgetTo.same' (by simp) (by simp [EWe, Env.look]) rfl
    rintro k ⟨hk1, hkn, hall⟩ hn'
    refine AWP.run (fun _ => false) tt_ok (fun _ h => nomatch h) (by simp) rfl ?_
    simp only [go_sem, hHl, hg, hln]
    refine Br_split (fun hd => ?_) (fun hd => ?_) <;> simp only [go_sem, hd]
    · have hlt : k < n := by simpa using hd
      obtain ⟨m, rfl⟩ : ∃ m, k = m + 1 := ⟨k - 1, by omega⟩
      have hM1 : (l.map (D.int .i64))[m + 1]? = some (.int .i64 (l.getD (m + 1) default)) := by rw [List.getElem?_map, List.getElem?_eq_getElem (by omega), getDG (by omega)]; rfl
      have hM0 : (l.map (D.int .i64))[m]? = some (.int .i64 (l.getD m default)) := by rw [List.getElem?_map, List.getElem?_eq_getElem (by omega), getDG (by omega)]; rfl
      have hw : IntKind.i64.wrap (((m + 1 : Nat) : Int) - 1) = (m : Int) := by rw [w64 (by omega) (by omega)]; omega
      have hnx : IntKind.i64.wrap (((m + 1 : Nat) : Int) + 1) = ((m + 1 + 1 : Nat) : Int) := by rw [w64 (by omega) (by omega)]; omega
      have c1 : (0 : Int) ≤ ((m + 1 : Nat) : Int) := by omega
      have c2 : ((m + 1 : Nat) : Int) < (n : Int) := by omega
      have c3 : (0 : Int) ≤ (m : Int) := by omega
      have c4 : (m : Int) < (n : Int) := by omega
      refine ADrw.treeG (fun _ => false) tt_ok (by kernel_rfl) (fun k => if k = 2 ∨ k = 3 ∨ k = 7 ∨ k = 8 then some .L else some .S) (.ones [0, 1, 2, 3, 4, 5, 6, 7, 8, 9] .done) (by simp) (fun _ h => nomatch h) rfl rfl (by kernel_rfl) ?_
      simp only [go_sem, hHl, hg, hln, hw, c1, c2, c3, c4, Int.toNat_natCast, hM1, hM0]
      have hne : newAt l (m + 1) = !decide (l.getD (m + 1) default = l.getD m default) := by
        rw [newAt, decide_eq_false (show ¬ m + 1 = 0 by omega), Bool.false_or]; rfl
      cases hb : decide (l.getD (m + 1) default = l.getD m default) with
      | false =>
        rw [hb] at hne
        simp only [go_sem, hnx]
        refine ⟨m + 1 + 1, ⟨by omega, by omega, fun i hi => ?_⟩, by omega, ?_⟩
        · by_cases e : i = m + 1
          · rw [e, hne]; rfl
          · exact hall i (by omega)
        · exact ForgetTo.same' (by simp) (by simp [EWe, Env.look]) rfl
      | true =>
        rw [hb] at hne
        have hst0 : dedP l (m + 1 + 1) = l.take (m + 1) := by
          rw [dedP_succ, dedP_all (m + 1) (by omega) fun i hi => hall i hi, if_neg (by rw [hne]; simp), List.append_nil]
        have e1 : m + 1 ≤ n := by omega
        have e2 : n ≤ n := Nat.le_refl _
        have e3 : m + 1 < n ∨ m + 1 = 0 := .inl hlt
        simp only [go_sem, hHl, hg, hln, c1, Int.toNat_natCast, e1, e2, e3, hlt, if_true, Nat.zero_add]
        refine ALoop.by (S := Nat × Nat × List Int) (fun s => [(5, .d (.int .i64 s.1)), (4, .ref id n (m + 1) (n - (m + 1))), (3, .d (.int .i64 s.2.1)), (0, .ref id n 0 n)]) (fun s => H.set id (.arr 1 false (s.2.2.map (.int .i64)))) (fun s => n - s.1)
          (fun s => 1 ≤ s.1 ∧ m + 1 + s.1 ≤ n ∧ s.2.2.length = n ∧ s.2.1 + 1 ≤ m + 1 + s.1 ∧ s.2.2.take s.2.1 = dedP l (m + 1 + s.1) ∧ ∀ j, m + s.1 ≤ j → j < n → s.2.2.getD j default = l.getD j default) (1, m + 1, l) (by simp) (fun _ h => nomatch h) ⟨Nat.le_refl 1, hlt, hl, Nat.le_refl (m + 1 + 1), hst0.symm, (fun _ _ _ => rfl)⟩ ?_ ?_
        · exact ForgetTo.same' (by simp) (by simp [EWe, Env.look]) rfl
        rintro ⟨q, k, M⟩ ⟨hq1, hqn, hMl, hkq, hMt, hMj⟩ hn2
        dsimp only at hq1 hqn hMl hkq hMt hMj hn2 ⊢
        have hln2 : (M.map (D.int .i64)).length = n := by simp [hMl]
        refine AWP.run (fun _ => false) tt_ok (fun _ h => nomatch h) (by simp) rfl ?_
        simp only [go_sem, hHl, hg, hln2]
        cases he : decide ((q : Int) < ((n - (m + 1) : Nat) : Int)) with
        | true =>
          have hql : m + 1 + q < n := by simp only [decide_eq_true_eq] at he; omega
          obtain ⟨q', rfl⟩ : ∃ q', q = q' + 1 := ⟨q - 1, by omega⟩
          have hw1 : IntKind.i64.wrap (((q' + 1 : Nat) : Int) - 1) = (q' : Int) := by rw [w64 (by omega) (by omega)]; omega
          have hnx1 : IntKind.i64.wrap (((q' + 1 : Nat) : Int) + 1) = ((q' + 1 + 1 : Nat) : Int) := by rw [w64 (by omega) (by omega)]; omega
          have hnk : IntKind.i64.wrap ((k : Int) + 1) = ((k + 1 : Nat) : Int) := by rw [w64 (by omega) (by omega)]; omega
          have g1 : (0 : Int) ≤ ((q' + 1 : Nat) : Int) := by omega
          have g2 : ((q' + 1 : Nat) : Int) < ((n - (m + 1) : Nat) : Int) := by omega
          have g3 : (0 : Int) ≤ (q' : Int) := by omega
          have g4 : (q' : Int) < ((n - (m + 1) : Nat) : Int) := by omega
          have g5 : (0 : Int) ≤ (k : Int) := by omega
          have g6 : (k : Int) < (n : Int) := by omega
          have hv1 := hMj (m + 1 + (q' + 1)) (by omega) (by omega)
          have hv0 := hMj (m + 1 + q') (by omega) (by omega)
          have hR1 : (M.map (D.int .i64))[m + 1 + (q' + 1)]? = some (.int .i64 (l.getD (m + 1 + (q' + 1)) default)) := by rw [← hv1, List.getElem?_map, List.getElem?_eq_getElem (by omega), getDG (by omega)]; rfl
          have hR0 : (M.map (D.int .i64))[m + 1 + q']? = some (.int .i64 (l.getD (m + 1 + q') default)) := by rw [← hv0, List.getElem?_map, List.getElem?_eq_getElem (by omega), getDG (by omega)]; rfl
          have hne2 : newAt l (m + 1 + (q' + 1)) = !decide (l.getD (m + 1 + (q' + 1)) default = l.getD (m + 1 + q') default) := by
            rw [newAt, decide_eq_false (show ¬ m + 1 + (q' + 1) = 0 by omega), Bool.false_or]; rfl
          have hst2 := dedP_succ l (m + 1 + (q' + 1))
          have hset : (M.set k (l.getD (m + 1 + (q' + 1)) default)).map (D.int .i64) = (M.map (D.int .i64)).set k (.int .i64 (l.getD (m + 1 + (q' + 1)) default)) := by rw [List.map_set]
          have hRk : ∃ x, (M.map (D.int .i64))[k]? = some (.int .i64 x) := ⟨M[k]'(by omega), by rw [List.getElem?_map, List.getElem?_eq_getElem (by omega)]; rfl⟩
          obtain ⟨x, hRk⟩ := hRk
          generalize hR : M.map (D.int .i64) = R at *
          refine ADrw.treeG (fun _ => false) tt_ok (by kernel_rfl) (fun k => if k = 2 ∨ k = 3 ∨ k = 7 ∨ k = 8 then some .L else some .S) (.ones [0, 1, 2, 3, 4, 5, 6, 7, 8, 9] .done) (by simp) (fun _ h => nomatch h) rfl rfl (by kernel_rfl) ?_
          simp only [go_sem, hHl, hg, hln2, hw1, g1, g2, g3, g4, Int.toNat_natCast, hR1, hR0]
          have hbn : ∀ a b : Int, (a != b) = !decide (a = b) := fun a b => by rw [bne, Bool.beq_eq_decide_eq]
          cases hb2 : decide (l.getD (m + 1 + (q' + 1)) default = l.getD (m + 1 + q') default) with
          | true =>
            rw [hb2] at hne2
            rw [hne2, if_neg (by simp), List.append_nil] at hst2
            simp only [go_sem, hbn, hb2, hnx1]
            refine ⟨(q' + 1 + 1, k, M), ⟨by simp only; omega, by simp only; omega, hMl, by simp only; omega, by rw [hMt]; exact hst2.symm, fun j h1 h2 => hMj j (by simp only at h1; omega) h2⟩, by simp only; omega, ?_⟩
            exact ForgetTo.same' (by simp) (by simp [EWe, Env.look]) (by simp [hR])
          | false =>
            rw [hb2] at hne2
            rw [hne2, if_pos (by simp)] at hst2
            simp only [go_sem, hHl, hg, hs, hln2, hbn, hb2, hnx1, hnk, g1, g2, g5, g6, Int.toNat_natCast, hR1, hRk, List.length_set]
            refine ⟨(q' + 1 + 1, k + 1, M.set k (l.getD (m + 1 + (q' + 1)) default)), ⟨by simp only; omega, by simp only; omega, by simp [hMl], by simp only; omega, ?_, fun j h1 h2 => ?_⟩, by simp only; omega, ?_⟩
            · simp only
              rw [List.take_succ_eq_append_getElem (by simp; omega), List.getElem_set_self, List.take_set_of_le (Nat.le_refl _), hMt]
              exact hst2.symm
            · simp only at h1 ⊢
              rw [List.getD_eq_getElem?_getD, List.getElem?_set_ne (by omega), ← List.getD_eq_getElem?_getD]
              exact hMj j (by omega) h2
            · exact ForgetTo.same' (by simp) (by simp [EWe, Env.look]) (by simp only [hset])
        | false =>
          have hqe : m + 1 + q = n := by simp only [decide_eq_false_iff_not] at he; omega
          have g5 : (0 : Int) ≤ (k : Int) := by omega
          have g7 : k ≤ n := by omega
          have g8 : k < n ∨ k = 0 := .inl (by omega)
          have g9 : k + (n - k) = n := by omega
          have g11 : k < n := by omega
          have g10 : 0 < k ∨ True := .inr trivial
          have hcc : (M.take k ++ List.replicate (n - k) 0).take k = compP l := by
            rw [List.take_append_of_le_length (by simp; omega), List.take_take, Nat.min_self, hMt, hqe, compP, hl]
          have hlen : (M.take k ++ List.replicate (n - k) 0).length = n := by simp; omega
          have hmm : (M.take k ++ List.replicate (n - k) (0 : Int)).map (D.int .i64) = (M.map (D.int .i64)).take k ++ List.replicate (n - k) (.int .i64 0) := by simp
          have := fin (M.take k ++ List.replicate (n - k) 0) k hlen g7 hcc (by rw [List.drop_append_of_le_length (by simp; omega)]; simp)
          rw [hmm] at this
          have hln3 : ((M.map (D.int .i64)).take k ++ List.replicate (n - k) (D.int .i64 0)).length = n := by simp; omega
          generalize M.map (D.int .i64) = R at *
          simp only [go_sem, hHl, hg, hs, hln2, hln3, g5, g7, g8, g9, g11, Int.toNat_natCast, Nat.zero_add, e2, hid, if_true]
          exact this.2
    · have hke : k = n := by simp only [decide_eq_false_iff_not] at hd; omega
      subst hke
      have hc : l.take k = compP l := by rw [compP, dedP_all l.length (Nat.le_refl _) fun i hi => hall i (by omega), hl]
      simp only [go_sem, hid, if_true]
      exact fin l k hl (Nat.le_refl _) hc (by rw [Nat.sub_self]; simp; omega)
theorem c111D {H : Heap} {id n : Nat} {l : List Int} (hid : id < H.length) (hl : l.length = n) (hn : n ≤ 1000)
    {Q : V → Heap → Prop} (hq : Q (.ref id n 0 (compP l).length) (H.set id (rowB (compP l ++ List.replicate (n - (compP l).length) 0)))) : DCall prog (.fn (.func 111) [] []) [.ref id n 0 n] (H.set id (rowB l)) Q :=
  ⟨_, _, ACallV.of rfl (c111 hid hl hn ⟨rfl, rfl⟩), hq⟩
end Go.Aw
end

section
set_option maxRecDepth 100000
namespace Go.Aw
open Go Go.Proofs.Tryz

theorem sized_strs (l : List ByteArray) : sized 1 (l.map D.str) = true := by simp [sized, dcells]

theorem c108 (l : List ByteArray) (h0 : l ≠ []) (hl : l.length ≤ 1000) : PC prog 108 [.d (.sl (l.map .str))] (.d (.sl (l.map .str))) := by
  refine PC.run (fun _ => false) tt_ok (fn := f108) (rs := [.tmp 2]) rfl rfl rfl rfl rfl rfl rfl ?_
  have hs := sized_strs l
  have h1 : l.length ≤ 4294967296 := by omega
  cases l with
  | nil => exact absurd rfl h0
  | cons x r =>
    simp only [List.map_cons, List.length_cons] at hs h1
    simp only [go_sem, bin_eql_cons, hs, show sized 1 [] = true from rfl, List.length_map, h1]

theorem c108r (l : List ByteArray) (h0 : l ≠ []) (hl : l.length ≤ 1000) : PCr prog 108 [.d (.sl (l.map .str))] [.arr 1 false (l.map .str)] (.ref 0 l.length 0 l.length) := by
  refine PCr.of_body tt_ok (fn := f108) (rs := [.tmp 2]) 1 rfl rfl rfl rfl rfl rfl ?_
  refine AWP.run (fun k => k == 7) tt_ok (fun _ h => nomatch h) (Nat.zero_le _) rfl ?_
  have hs := sized_strs l
  have h1 : l.length ≤ 4294967296 := by omega
  have hd1 : decide (l.length ≤ 4294967296) = true := by simpa using h1
  cases l with
  | nil => exact absurd rfl h0
  | cons x r =>
    simp only [List.map_cons, List.length_cons] at hs h1 hd1
    simp only [go_sem, bin_eql_cons, hs, show sized 1 [] = true from rfl, List.length_map, h1, hd1]

/-- What stands twice, as a row of its own. -/
theorem c72r (l : List ByteArray) (hl : l.length ≤ 1000) : PCr prog 72 [.d (.sl (l.map D.str))] (.obj (.map (mapM D.str (cntM l))) :: outH (natI (twinsP l))) (outV (natI (twinsP l))) := by
  refine PCr.of_body tt_ok (fn := f72) (rs := [.tmp 2]) (1 + (outH (natI (twinsP l))).length) rfl rfl rfl rfl rfl rfl ?_
  refine AWP.run (fun k => k == 34) tt_ok (fun _ h => nomatch h) (Nat.zero_le _) rfl ?_
  simp only [go_sem, List.length_map]
  refine ALoop.by (S := Nat) (fun i => [(11, .d (.int .i64 i)), (10, .d (.int .i64 l.length)), (9, .d (.sl (l.map D.str))), (3, .obj 0), (2, .slx (some true) []), (0, .d (.sl (l.map D.str)))])
    (fun i => [.obj (.map (mapM D.str (cntM (l.take i))))]) (fun i => l.length - i) (fun i => i ≤ l.length) 0 (Nat.zero_le _) (fun _ h => nomatch h) (Nat.zero_le _) ?_ ?_
  · exact ForgetTo.same' (Nat.zero_le _) (by simp [EWe, Env.look]) rfl
  · rintro i hi hn
    refine AWP.run (fun k => k == 34) tt_ok (fun _ h => nomatch h) (Nat.zero_le _) rfl ?_
    simp only [go_sem, List.length_map]
    refine Br_split (fun hd => ?_) (fun hd => ?_) <;> simp only [go_sem, hd]
    · have hlt : i < l.length := by simpa using hd
      have hix : idx? (l.map D.str) (i : Int) = some (D.str l[i]) := by simp [idx?, List.getElem?_eq_getElem hlt]
      have hst : cntM (l.take (i + 1)) = bump l[i] (cntM (l.take i)) := by rw [List.take_succ_eq_append_getElem hlt, cntM_snoc]
      have hlk := map_look keyS l[i] (cntM (l.take i))
      have hpt := map_put keyS l[i] (cntM (l.take i))
      have hgc := getM_cnt l[i] (l.take i)
      have hcl := cntL_le l[i] (l.take i)
      have hgl : getM l[i] (cntM (l.take i)) ≤ 1000 := by rw [hgc]; have : (l.take i).length ≤ l.length := List.length_take_le' i l; omega
      have hnx : IntKind.i64.wrap ((i : Int) + 1) = (i : Int) + 1 := w64 (by omega) (by omega)
      clear hgc hcl
      generalize cntM (l.take i) = M at *
      generalize l[i] = x at *
      generalize getM x M = n at *
      have hw : IntKind.i64.wrap ((n : Int) + 1) = ((n + 1 : Nat) : Int) := by rw [w64 (by omega) (by omega)]; omega
      simp only [go_sem, hix, hlk, hw, hpt]
      refine ⟨i + 1, hlt, by omega, ?_⟩
      exact ForgetTo.same' (Nat.zero_le _) (by simp [EWe, Env.look, hnx]) (by simp [hst])
    · have hie : i = l.length := by simp only [decide_eq_false_iff_not] at hd; omega
      subst hie
      rw [List.take_length]
      simp only [go_sem, List.length_map]
      refine ALoop.by (S := Nat) (fun i => [(22, .d (.int .i64 i)), (21, .d (.int .i64 l.length)), (20, .d (.sl (l.map D.str))), (3, .obj 0), (2, outV (twTo l i))])
        (fun i => .obj (.map (mapM D.str (cntM l))) :: outH (twTo l i)) (fun i => l.length - i) (fun i => i ≤ l.length) 0 (Nat.zero_le _) (fun _ h => nomatch h) (Nat.zero_le _) ?_ ?_
      · exact ForgetTo.same' (Nat.zero_le _) (by simp [EWe, Env.look, twTo, natI, outV]) (by simp [twTo, natI, outH])
      rintro i hi hn
      refine AWP.run (fun k => k == 34) tt_ok (fun _ h => nomatch h) (Nat.zero_le _) rfl ?_
      simp only [go_sem, List.length_map]
      refine Br_split (fun hd => ?_) (fun hd => ?_) <;> simp only [go_sem, hd]
      · have hlt : i < l.length := by simpa using hd
        have hix : idx? (l.map D.str) (i : Int) = some (D.str l[i]) := by simp [idx?, List.getElem?_eq_getElem hlt]
        have hst := twTo_succ l i
        have hlk := map_look keyS l[i] (cntM l)
        rw [getM_cnt] at hlk
        rw [getDG hlt] at hst
        have htl := twTo_len l i
        have hnx : IntKind.i64.wrap ((i : Int) + 1) = (i : Int) + 1 := w64 (by omega) (by omega)
        generalize l[i] = x at *
        generalize cntM l = M at *
        generalize twTo l i = tw at *
        simp only [go_sem, hix, hlk]
        cases d1 : decide ((1 : Int) < (cntL x l : Nat)) with
        | true =>
          have h1 : 1 < cntL x l := by simp only [decide_eq_true_eq] at d1; omega
          rw [if_pos h1] at hst
          cases tw with
          | nil =>
            simp only [go_sem, d1, outV, outH]
            refine ⟨i + 1, hlt, by omega, ?_⟩
            exact ForgetTo.same' (Nat.zero_le _) (by simp [EWe, Env.look, hnx, hst, outV]) (by simp [hst, outH])
          | cons y r =>
            have hr1 : decide (r.length ≤ 4294967294) = true := by simp only [decide_eq_true_eq, List.length_cons] at htl ⊢; omega
            have hln : ((y :: r).map (D.int .i64)).length = r.length + 1 := by simp
            generalize hY : (y :: r).map (D.int .i64) = Y at *
            simp only [go_sem, d1, outV, outH, hln, hr1]
            refine ⟨i + 1, hlt, by omega, ?_⟩
            exact ForgetTo.same' (Nat.zero_le _) (by simp [EWe, Env.look, hnx, hst, outV]) (by simp [hst, outH, ← hY])
        | false =>
          have h1 : ¬ 1 < cntL x l := by simp only [decide_eq_false_iff_not] at d1; omega
          rw [if_neg h1, List.append_nil] at hst
          simp only [go_sem, d1]
          refine ⟨i + 1, hlt, by omega, ?_⟩
          exact ForgetTo.same' (Nat.zero_le _) (by simp [EWe, Env.look, hnx, hst]) (by simp [hst])
      · have hie : i = l.length := by simp only [decide_eq_false_iff_not] at hd; omega
        subst hie
        have htw : twTo l l.length = natI (twinsP l) := rfl
        rw [htw]
        cases natI (twinsP l) with
        | nil => simp only [go_sem, outV, outH, lvI]
        | cons y r =>
          have hln : ((y :: r).map (D.int .i64)).length = r.length + 1 := by simp
          have htk : ((y :: r).map (D.int .i64)).take (r.length + 1) = (y :: r).map (D.int .i64) := List.take_of_length_le (by simp)
          simp only [outV, outH, lvI]
          generalize (y :: r).map (D.int .i64) = Y at *
          simp only [go_sem, hln, htk]

end Go.Aw
end

section
set_option maxRecDepth 100000
namespace Go.Aw
open Go Go.Proofs.Tryz

structure Page where
  hour : Int
  names : List ByteArray

def Page.d (p : Page) : D := .agg [.int .i64 p.hour, .sl (p.names.map .str)]

def applyC (g : List Chg) (ns : List ByteArray) : List ByteArray := g.foldl (fun ns c => ns.set c.st.toNat c.name) ns

theorem applyC_snoc (g : List Chg) (c : Chg) (ns : List ByteArray) : applyC (g ++ [c]) ns = (applyC g ns).set c.st.toNat c.name := by rw [applyC, List.foldl_append]; rfl
theorem applyC_len (g : List Chg) : ∀ ns, (applyC g ns).length = ns.length := by
  induction g with
  | nil => intro ns; rfl
  | cons c g ih => intro ns; rw [applyC, List.foldl_cons]; exact (ih _).trans (by simp)

/-- The changes of the first hour. -/
def grp (S : List Chg) (h : Int) : List Chg := S.takeWhile fun c => decide (c.at' = h)

def strs (g : List Chg) (ns : List ByteArray) : List Int :=
  if twinsP (g.map (·.st)) = [] then natI (twinsP (applyC g ns)) else (twinsP (g.map (·.st))).map fun i => (g.map (·.st)).getD i default

def nbF : Nat → List Page → List ByteArray → List Chg → List Page × Int × List Int
  | 0, P, _, _ => (P, 0, [])
  | _ + 1, P, _, [] => (P, 0, [])
  | f + 1, P, ns, c :: r =>
    if strs (grp (c :: r) c.at') ns ≠ [] then (P, c.at', compP (sortG ltI (strs (grp (c :: r) c.at') ns)))
    else nbF f (P ++ [⟨c.at', applyC (grp (c :: r) c.at') ns⟩]) (applyC (grp (c :: r) c.at') ns) ((c :: r).drop (grp (c :: r) c.at').length)

def nbT (t : Town) : List Page × Int × List Int := nbF 9 [⟨0, t.first⟩] t.first (sortG ltC t.ch)

def bookD (t : Town) (P : List Page) : D := .agg [.sl (t.first.map .str), .sl (t.ch.map Chg.d), .sl (P.map Page.d)]
def bookB (t : Town) (n : Nat) : Blk := .cells [.d (.sl (t.first.map .str)), .d (.sl (t.ch.map Chg.d)), .ref 2 n 0 n]

theorem grp_le (S : List Chg) (h : Int) : (grp S h).length ≤ S.length := by
  have := congrArg List.length (List.takeWhile_append_dropWhile (p := fun c : Chg => decide (c.at' = h)) (l := S))
  rw [List.length_append] at this
  rw [grp]; omega

theorem take_takeWhile {α : Type} (p : α → Bool) : ∀ S : List α, S.take (S.takeWhile p).length = S.takeWhile p
  | [] => rfl
  | a :: S => by
    rw [List.takeWhile_cons]
    split
    · rw [List.length_cons, List.take_succ_cons, take_takeWhile p S]
    · rfl

theorem takeWhile_end {α : Type} (p : α → Bool) : ∀ (S : List α) (x : α), S[(S.takeWhile p).length]? = some x → p x = false
  | [], x, h => by simp at h
  | a :: S, x, h => by
    rw [List.takeWhile_cons] at h
    split at h
    · rw [List.length_cons, List.getElem?_cons_succ] at h
      exact takeWhile_end p S x h
    · rename_i ha
      simp at h
      subst h
      simpa using ha

theorem grp_take (S : List Chg) (h : Int) : S.take (grp S h).length = grp S h := take_takeWhile _ S

theorem grp_in {S : List Chg} {h : Int} {q : Nat} (hq : q < S.length) (hg : q < (grp S h).length) : S[q].at' = h := by
  have h1 : (grp S h)[q]? = some S[q] := by
    rw [← grp_take, List.getElem?_take_of_lt hg, List.getElem?_eq_getElem hq]
  have h2 := takeWhile_mem (List.mem_of_getElem? h1)
  simpa using h2

theorem grp_end {S : List Chg} {h : Int} (hq : (grp S h).length < S.length) : S[(grp S h).length].at' ≠ h := by
  have := takeWhile_end (fun c : Chg => decide (c.at' = h)) S S[(grp S h).length] (List.getElem?_eq_getElem hq)
  simpa using this

def hK (t : Town) (P : List Page) : Heap := [townB t, bookB t P.length, .arr 2 false (P.map Page.d)]

/-- What is in a slot; a list that may be nil is just that. -/
def EWi (E : Env) : Env → Prop
  | [] => True
  | (k, v) :: r => (E.look k = v ∨ ∃ l : List Int, E.look k = lvI l ∧ v = .d (.sl (l.map (.int .i64)))) ∧ EWi E r

theorem EWi_ew {n : Nat} {H : Heap} (hH : H.length ≤ n) {E : Env} : ∀ {E' : Env}, EWi E E' → EW n H E E'
  | [], _ => trivial
  | (_, _) :: _, h => ⟨by
      rcases h.1 with h1 | ⟨l, h1, h2⟩
      · exact .inr (.inl ⟨h1, hH⟩)
      · subst h2
        rw [h1]
        cases l with
        | nil => exact .inr (.inr (.inr ⟨some true, [], rfl, .inr rfl⟩))
        | cons x r => exact .inr (.inl ⟨rfl, hH⟩), EWi_ew hH h.2⟩

theorem ForgetTo.sameI {n0 : Nat} {E E' : Env} {H H' : Heap} (hn : n0 ≤ H.length) (he : EWi E E') (hH : H = H') : ForgetTo n0 E H E' H' := by
  subst hH
  exact ⟨hn, Nat.le_refl _, .inl (Nat.le_refl _), List.take_length, EWi_ew (Nat.le_refl _) he⟩

theorem twinsP_len {α : Type} [DecidableEq α] [Inhabited α] (l : List α) : (twinsP l).length ≤ l.length := by
  have := twTo_len l l.length
  rwa [show twTo l l.length = natI (twinsP l) from rfl, natI, List.length_map] at this

theorem lvI_ne {l : List Int} (h : l ≠ []) : lvI l = .d (.sl (l.map (.int .i64))) := by
  cases l with
  | nil => exact absurd rfl h
  | cons x r => rfl

theorem compP_ne {l : List Int} (h : l ≠ []) : compP l ≠ [] := by
  cases l with
  | nil => exact absurd rfl h
  | cons x r =>
    rw [compP, dedP, List.length_cons, List.range_succ_eq_map, List.filter_cons, if_pos (show newAt (x :: r) 0 = true from rfl)]
    simp

theorem comp_row {M : List Int} {n : Nat} (hM : M.length = n) : (compP M ++ List.replicate (n - (compP M).length) 0).length = n ∧
    ((compP M ++ List.replicate (n - (compP M).length) 0).map (D.int .i64)).take (compP M).length = (compP M).map (.int .i64) := by
  have := dedP_len M M.length
  rw [compP]
  refine ⟨by simp; omega, ?_⟩
  rw [List.map_append, List.take_append_of_le_length (by simp), List.take_of_length_le (by simp)]

theorem c74 (t : Town) (ht : t.Ok) : PC prog 74 [.d t.d] (.tup [.d (bookD t (nbT t).1), .d (.int .i64 (nbT t).2.1), lvI (nbT t).2.2]) := by
  have hlen := ht.len
  have hchl := ht.chl
  have hne : t.first ≠ [] := fun e => by rw [e] at hlen; simp at hlen
  refine PC.run (fun k => k == 22) tt_ok (fn := f74) (rs := [.cell 2 137, .tmp 3, .tmp 4]) rfl rfl rfl rfl rfl rfl rfl ?_
  simp only [go_sem, Town.d]
  refine (c105 t.ch).call rfl rfl rfl ?_
  simp only [go_sem]
  refine (c104 t.ch (by omega)).call rfl rfl rfl ?_
  simp only [go_sem]
  refine (c108 t.first hne (by omega)).call rfl rfl rfl ?_
  simp only [go_sem]
  have hS8 : (sortG ltC t.ch).length ≤ 8 := by rw [sortG_len]; exact hchl
  have hSok : ∀ c ∈ sortG ltC t.ch, 0 ≤ c.st ∧ c.st < t.first.length := fun c hc => by
    have := ht.chs c (sortG_mem.1 hc)
    simp only [chgOk, Bool.and_eq_true, decide_eq_true_eq] at this
    exact this.1.2
  rw [nbT]
  refine ALoop.by (S := Nat × List Page × List ByteArray × List Chg) (fun s => [(6, .d (.sl (s.2.2.1.map .str))), (5, .d (.sl (s.2.2.2.map Chg.d))), (4, .slx (some true) []), (2, .ptr 1 0)])
    (fun s => hK t s.2.1) (fun s => s.1) (fun s => nbF s.1 s.2.1 s.2.2.1 s.2.2.2 = nbF 9 [⟨0, t.first⟩] t.first (sortG ltC t.ch) ∧ s.2.2.2.length < s.1 ∧ s.2.1.length + s.2.2.2.length ≤ 9 ∧ s.2.2.1.length = t.first.length ∧ ∀ c ∈ s.2.2.2, 0 ≤ c.st ∧ c.st < t.first.length)
    (9, [⟨0, t.first⟩], t.first, sortG ltC t.ch) (Nat.zero_le _) (fun _ h => nomatch h) ⟨rfl, by show (sortG ltC t.ch).length < 9; omega, by show 1 + (sortG ltC t.ch).length ≤ 9; omega, rfl, hSok⟩ ?_ ?_
  · exact ForgetTo.same' (Nat.zero_le _) (by simp [EWe, Env.look]) (by simp [hK, townB, bookB, Page.d])
  clear hSok hS8
  generalize nbF 9 [⟨0, t.first⟩] t.first (sortG ltC t.ch) = NB at *
  rintro ⟨f, P, ns, S⟩ ⟨hNB, hSf, hPS, hns, hSok⟩ hn0
  dsimp only at hNB hSf hPS hns hSok hn0 ⊢
  have hPl : (P.map Page.d).length = P.length := by simp
  have hPk : (P.map Page.d).take P.length = P.map Page.d := List.take_of_length_le (by simp)
  obtain ⟨f', rfl⟩ : ∃ f', f = f' + 1 := ⟨f - 1, by omega⟩
  cases S with
  | nil =>
    rw [nbF] at hNB
    refine AWP.run (fun k => k == 22) tt_ok (fun _ h => nomatch h) (Nat.zero_le _) rfl ?_
    simp only [go_sem, hK, townB, bookB]
    rw [← hNB]
    simp only [bookD]
    generalize P.map Page.d = PD at *
    simp only [go_sem, hPl, hPk, lvI]
  | cons c r =>
    rw [nbF] at hNB
    have hgl := grp_le (c :: r) c.at'
    have hgt := grp_take (c :: r) c.at'
    have hg1 : 1 ≤ (grp (c :: r) c.at').length := by simp [grp]
    have hgi := fun q h1 h2 => grp_in (S := c :: r) (h := c.at') (q := q) h1 h2
    have hge := fun h1 => grp_end (S := c :: r) (h := c.at') h1
    have hix0 : idx? ((c :: r).map Chg.d) 0 = some c.d := rfl
    have hlp : decide (((c :: r).length : Int) > 0) = true := decide_eq_true (by simp)
    obtain ⟨S, hS⟩ : ∃ S, S = c :: r := ⟨_, rfl⟩
    rw [← hS] at hNB hSf hPS hSok hgl hgt hg1 hgi hge hix0 hlp
    have hSl : (S.map Chg.d).length = S.length := by simp
    have hcd : c.d = .agg [.int .i64 c.at', .int .i64 c.st, .str c.name] := rfl
    have hns0 : ns ≠ [] := fun e => by rw [e] at hns; simp at hns; omega
    rw [← hS]
    generalize c.at' = at0 at *
    refine AWP.stepN 1 [(6, .d (.sl (ns.map .str))), (5, .d (.sl (S.map Chg.d))), (4, .slx (some true) []), (2, .ptr 1 0)] (hK t P) (fun k => k == 8 || k == 60) tt_ok (fun _ h => nomatch h) (Nat.zero_le _) rfl ?_ ?_
    · simp only [go_sem, hK, townB, bookB, hSl, hlp]
      exact ForgetTo.same' (Nat.zero_le _) (by simp [EWe, Env.look]) rfl
    refine AWP.block ?_
    have hgm : ∀ c ∈ grp S at0, c ∈ S := fun c hc => by rw [← hgt] at hc; exact List.mem_of_mem_take hc
    generalize hgr : grp S at0 = g at *
    refine AWP.stepN 4 [(8, .d (.sl ((g.map (·.st)).map (.int .i64)))), (7, .d (.int .i64 at0)), (6, .d (.sl ((applyC g ns).map .str))), (5, .d (.sl ((S.drop g.length).map Chg.d))), (4, .slx (some true) []), (2, .ptr 1 0)] (hK t P) (fun k => k == 8) tt_ok (fun _ h => nomatch h) (Nat.zero_le _) rfl ?_ ?_
    · simp only [go_sem, hK, townB, bookB, hix0, hcd]
      refine (c108r ns hns0 (by omega)).call' rfl rfl rfl ?_
      simp only [go_sem]
      refine ALoop.by (S := Nat) (fun q => [(8, .ref 4 q 0 q), (7, .d (.int .i64 at0)), (6, .ref 3 ns.length 0 ns.length), (5, .d (.sl ((S.drop q).map Chg.d))), (4, .slx (some true) []), (2, .ptr 1 0)])
        (fun q => hK t P ++ [.arr 1 false ((applyC (g.take q) ns).map .str), .arr 1 (decide (q = 0)) (((g.take q).map (·.st)).map (.int .i64))]) (fun q => g.length - q) (fun q => q ≤ g.length) 0 (Nat.zero_le _) (fun _ h => nomatch h) (Nat.zero_le _) ?_ ?_
      · exact ForgetTo.same' (Nat.zero_le _) (by simp [EWe, Env.look]) (by simp [hK, townB, bookB, applyC])
      rintro q hq hnq
      refine AWP.run (fun _ => false) tt_ok (fun _ h => nomatch h) (Nat.zero_le _) rfl ?_
      have hdl : ((S.drop q).map Chg.d).length = S.length - q := by simp
      have hal : ((applyC (g.take q) ns).map D.str).length = ns.length := by rw [List.length_map, applyC_len]
      have hgq : (((g.take q).map (·.st)).map (D.int .i64)).length = q := by simp; omega
      rcases Nat.lt_or_ge q g.length with hqg | hqg
      · have hqS : q < S.length := by omega
        have hat := hgi q hqS hqg
        have hSq : S[q] = g[q] := by
          have h1 : g[q]? = some S[q] := by rw [← hgt, List.getElem?_take_of_lt hqg, List.getElem?_eq_getElem hqS]
          rw [List.getElem?_eq_getElem hqg] at h1
          exact (Option.some.inj h1).symm
        have hix : idx? ((S.drop q).map Chg.d) 0 = some S[q].d := by rw [List.drop_eq_getElem_cons hqS]; rfl
        have hcd2 : S[q].d = .agg [.int .i64 S[q].at', .int .i64 S[q].st, .str S[q].name] := rfl
        obtain ⟨h0, h1⟩ := hSok _ (List.getElem_mem hqS)
        obtain ⟨k, hk⟩ : ∃ k : Nat, S[q].st = k := ⟨S[q].st.toNat, by omega⟩
        have hkl : k < ns.length := by omega
        have hst : g.take (q + 1) = g.take q ++ [g[q]] := List.take_succ_eq_append_getElem hqg
        have hap : ((applyC (g.take (q + 1)) ns).map D.str) = ((applyC (g.take q) ns).map D.str).set k (.str S[q].name) := by
          rw [hst, applyC_snoc, ← hSq, hk, Int.toNat_natCast, List.map_set]
        have hgs : (((g.take (q + 1)).map (·.st)).map (D.int .i64)) = ((g.take q).map (·.st)).map (D.int .i64) ++ [.int .i64 k] := by
          rw [hst, List.map_append, List.map_append, ← hSq, ← hk]; rfl
        have hdr : ((S.drop q).map Chg.d).drop 1 = (S.drop (q + 1)).map Chg.d := by rw [← List.map_drop, List.drop_drop]
        have hak : ∃ x, ((applyC (g.take q) ns).map D.str)[k]? = some (.str x) := ⟨_, by rw [List.getElem?_map, List.getElem?_eq_getElem (by rw [applyC_len]; exact hkl)]; rfl⟩
        obtain ⟨x, hak⟩ := hak
        have d1 : decide (((S.length - q : Nat) : Int) > 0) = true := decide_eq_true (by omega)
        have d1' : decide ((0 : Int) < ((S.length - q : Nat) : Int)) = true := decide_eq_true (by omega)
        have g1 : (0 : Int) ≤ (k : Int) := by omega
        have g2 : (k : Int) < (ns.length : Int) := by omega
        have g3 : 1 ≤ S.length - q := by omega
        have g4 : decide (q ≤ 4294967295) = true := by simp only [decide_eq_true_eq]; omega
        rw [hat, hk] at hcd2
        have hsC := sized_chg (S.drop q)
        generalize S[q].name = nm0 at *
        generalize hA : (applyC (g.take q) ns).map D.str = A at *
        generalize hB : ((g.take q).map (·.st)).map (D.int .i64) = B at *
        generalize hC : (S.drop q).map Chg.d = C at *
        have hCt : C.take (S.length - q) = C := List.take_of_length_le (by omega)
        simp only [go_sem, hK, townB, bookB, hdl, d1', hix, hcd2]
        refine ADrw.treeG (fun _ => false) tt_ok (by kernel_rfl) (fun k => if k = 10 then some .W else if k = 9 then some .L else some .S) (.ones [0, 1, 2, 3, 4, 5, 6, 7, 8, 9, 10] .done) (Nat.zero_le _) (fun _ h => nomatch h) rfl rfl (by kernel_rfl) ?_
        simp only [go_sem, hix, hcd2, hal, g1, g2, Int.toNat_natCast, hak, hgq, hdl, hCt, g3, g4, hsC]
        refine ⟨q + 1, hqg, by omega, ?_⟩
        exact ForgetTo.same' (Nat.zero_le _) (by simp [EWe, Env.look, hdr]) (by rw [hap, hgs]; simp [hK, townB, bookB])
      · have hqe : q = g.length := by omega
        subst hqe
        have hgt' : g.take g.length = g := List.take_length
        rw [hgt'] at hal hgq
        rw [hgt']
        have htk1 : ((applyC g ns).map D.str).take ns.length = (applyC g ns).map D.str := List.take_of_length_le (by omega)
        have htk2 : ((g.map (·.st)).map (D.int .i64)).take g.length = (g.map (·.st)).map (D.int .i64) := List.take_of_length_le (by omega)
        have hbb : BBs 3 (hK t P) := by simp [hK, townB, bookB, BBs, BB, VBs, VB]
        simp only [hK, townB, bookB] at hbb
        generalize (applyC g ns).map D.str = A at *
        generalize (g.map (·.st)).map (D.int .i64) = B at *
        have fin : ∀ E : Env, EWq 3 ([.cells [.d (.sl (t.first.map .str)), .d (.sl (t.ch.map Chg.d))], .cells [.d (.sl (t.first.map .str)), .d (.sl (t.ch.map Chg.d)), .ref 2 P.length 0 P.length], .arr 2 false (P.map Page.d)] ++ [.arr 1 false A, .arr 1 (decide (g.length = 0)) B]) E
            [(8, .d (.sl B)), (7, .d (.int .i64 at0)), (6, .d (.sl A)), (5, .d (.sl ((S.drop g.length).map Chg.d))), (4, .slx (some true) []), (2, .ptr 1 0)] →
            ForgetTo 0 E [.cells [.d (.sl (t.first.map .str)), .d (.sl (t.ch.map Chg.d))], .cells [.d (.sl (t.first.map .str)), .d (.sl (t.ch.map Chg.d)), .ref 2 P.length 0 P.length], .arr 2 false (P.map Page.d), .arr 1 false A, .arr 1 (decide (g.length = 0)) B]
              [(8, .d (.sl B)), (7, .d (.int .i64 at0)), (6, .d (.sl A)), (5, .d (.sl ((S.drop g.length).map Chg.d))), (4, .slx (some true) []), (2, .ptr 1 0)]
              [.cells [.d (.sl (t.first.map .str)), .d (.sl (t.ch.map Chg.d))], .cells [.d (.sl (t.first.map .str)), .d (.sl (t.ch.map Chg.d)), .ref 2 P.length 0 P.length], .arr 2 false (P.map Page.d)] :=
          fun E hE => ForgetTo.dropR (H0 := [_, _, _]) (Y := [_, _]) (Nat.zero_le _) rfl hbb hE
        rcases Nat.lt_or_ge g.length S.length with hgS | hgS
        · have hna := hge hgS
          have hix : idx? ((S.drop g.length).map Chg.d) 0 = some S[g.length].d := by rw [List.drop_eq_getElem_cons hgS]; rfl
          have hcd2 : S[g.length].d = .agg [.int .i64 S[g.length].at', .int .i64 S[g.length].st, .str S[g.length].name] := rfl
          have d1' : decide ((0 : Int) < ((S.length - g.length : Nat) : Int)) = true := decide_eq_true (by omega)
          have d2 : decide (S[g.length].at' = at0) = false := decide_eq_false hna
          generalize (S.drop g.length).map Chg.d = C at *
          simp only [go_sem, hK, townB, bookB, hdl, d1', hix, hcd2, d2]
          refine fin _ ?_
          simp [EWq, Env.look, pubV, hal, hgq, htk1, htk2]
        · have d1' : decide ((0 : Int) < ((S.length - g.length : Nat) : Int)) = false := decide_eq_false (by omega)
          generalize (S.drop g.length).map Chg.d = C at *
          simp only [go_sem, hK, townB, bookB, hdl, d1']
          refine fin _ ?_
          simp [EWq, Env.look, pubV, hal, hgq, htk1, htk2]
    clear hge hgi hlp hix0 hcd
    have hgl8 : (g.map (·.st)).length ≤ 1000 := by simp; omega
    generalize hch : g.map (·.st) = ch at *
    have hK2 : (hK t P).length = 3 := rfl
    have hbb : BBs 3 (hK t P) := by simp [hK, townB, bookB, BBs, BB, VBs, VB]
    generalize hA : applyC g ns = A at *
    generalize hC : (S.drop g.length) = C at *
    refine AWP.nilslot 4 1 (nl := true) rfl (Nat.zero_le _) ?_
    refine AWP.stepN 1 [(7, .d (.int .i64 at0)), (6, .d (.sl (A.map .str))), (5, .d (.sl (C.map Chg.d))), (4, .ref 3 (twinsP ch).length 0 (twinsP ch).length), (2, .ptr 1 0)] (hK t P ++ [.arr 1 (decide ((twinsP ch).length = 0)) (((twinsP ch).map fun i => ch.getD i default).map (.int .i64))]) (fun k => false) tt_ok (fun _ h => nomatch h) (Nat.zero_le _) rfl ?_ ?_
    · simp only [go_sem, hK2]
      refine (c109 ch hgl8).call rfl rfl (by cases natI (twinsP ch) <;> rfl) ?_
      have htl : (twinsP ch).length ≤ ch.length := twinsP_len ch
      have htm : ∀ i ∈ twinsP ch, i < ch.length := fun i hi => by
        have := (List.mem_filter.1 hi).1
        simpa using this
      generalize twinsP ch = tw at *
      simp only [go_sem, lvI_len0]
      refine ALoop.by (S := Nat) (fun i => [(66, .d (.int .i64 i)), (65, .d (.int .i64 tw.length)), (64, .d (.sl ((natI tw).map (.int .i64)))), (8, .d (.sl (ch.map (.int .i64)))), (7, .d (.int .i64 at0)), (6, .d (.sl (A.map .str))), (5, .d (.sl (C.map Chg.d))), (4, .ref 3 i 0 i), (2, .ptr 1 0)])
        (fun i => hK t P ++ [.arr 1 (decide (i = 0)) (((tw.take i).map fun i => ch.getD i default).map (.int .i64))]) (fun i => tw.length - i) (fun i => i ≤ tw.length) 0 (Nat.zero_le _) (fun _ h => nomatch h) (Nat.zero_le _) ?_ ?_
      · refine ForgetTo.sameI (Nat.zero_le _) ?_ (by simp)
        refine ⟨.inl rfl, .inl (by simp [Env.look, natI]), .inr ⟨natI tw, rfl, rfl⟩, .inl rfl, .inl rfl, .inl rfl, .inl rfl, .inl rfl, .inl rfl, trivial⟩
      rintro i hi hn
      refine AWP.run (fun _ => false) tt_ok (fun _ h => nomatch h) (Nat.zero_le _) rfl ?_
      simp only [go_sem]
      refine Br_split (fun hd => ?_) (fun hd => ?_) <;> simp only [go_sem, hd]
      · have hlt : i < tw.length := by simpa using hd
        have hix : idx? ((natI tw).map (D.int .i64)) (i : Int) = some (.int .i64 (tw[i] : Nat)) := by simp [idx?, natI, List.getElem?_eq_getElem hlt]
        have hwi := htm _ (List.getElem_mem hlt)
        have hst : (((tw.take (i + 1)).map fun i => ch.getD i default).map (D.int .i64)) = (((tw.take i).map fun i => ch.getD i default).map (D.int .i64)) ++ [.int .i64 (ch.getD tw[i] default)] := by rw [List.take_succ_eq_append_getElem hlt, List.map_append, List.map_append]; rfl
        have hix2 : idx? (ch.map (D.int .i64)) (tw[i] : Nat) = some (.int .i64 (ch.getD tw[i] default)) := by rw [getDG hwi]; simp [idx?, List.getElem?_eq_getElem hwi]
        have hln : (((tw.take i).map fun i => ch.getD i default).map (D.int .i64)).length = i := by simp; omega
        have hi2 : decide (i ≤ 4294967295) = true := by simp only [decide_eq_true_eq]; omega
        have hnx : IntKind.i64.wrap ((i : Int) + 1) = (i : Int) + 1 := w64 (by omega) (by omega)
        generalize ((tw.take i).map fun i => ch.getD i default).map (D.int .i64) = B at *
        generalize tw[i] = w at *
        generalize ch.getD w default = x at *
        simp only [go_sem, hK, hix, hix2, hln, hi2]
        refine ⟨i + 1, hlt, by omega, ?_⟩
        exact ForgetTo.same' (Nat.zero_le _) (by simp [EWe, Env.look, hnx]) (by rw [hst]; simp [hK])
      · have hie : i = tw.length := by simp only [decide_eq_false_iff_not] at hd; omega
        subst hie
        rw [List.take_length]
        exact ForgetTo.same' (Nat.zero_le _) (by simp [EWe, Env.look]) rfl
    have hAn : A.length = ns.length := by rw [← hA, applyC_len]
    have hchl : ch.length = g.length := by rw [← hch]; simp
    have hstr : strs g ns = if twinsP ch = [] then natI (twinsP A) else (twinsP ch).map fun i => ch.getD i default := by rw [strs, hch, hA]
    rw [hstr] at hNB
    by_cases htw : twinsP ch = []
    · rw [if_pos htw] at hNB
      have c72a := c72r A (by omega)
      rw [htw]
      simp only [List.length_nil, List.map_nil]
      cases htA : natI (twinsP A) with
      | nil =>
        rw [htA] at c72a hNB
        simp only [outH, outV, ne_eq, not_true_eq_false, if_false] at c72a hNB
        refine AWP.run (fun _ => false) tt_ok (fun _ h => nomatch h) (Nat.zero_le _) rfl ?_
        simp only [go_sem, hK, townB, bookB]
        refine c72a.call' rfl rfl rfl ?_
        have hp1 : decide (P.length ≤ 4294967295) = true := by simp only [decide_eq_true_eq]; omega
        have hCl : C.length = S.length - g.length := by rw [← hC]; simp
        simp only [go_sem, hPl, hp1]
        refine ⟨(f', P ++ [⟨at0, A⟩], A, C), ⟨hNB, by show C.length < f'; omega, by show (P ++ [_]).length + C.length ≤ 9; rw [List.length_append, List.length_singleton]; omega, hAn.trans hns, fun c hc => hSok c (by rw [← hC] at hc; exact List.mem_of_mem_drop hc)⟩, Nat.lt_succ_self _, ?_⟩
        refine ForgetTo.dropR (H0 := [_, _, _]) (Y := [_, _]) (Nat.zero_le _) (by simp [hK, townB, bookB, Page.d]) (by simp [hK, townB, bookB, BBs, BB, VBs, VB]) ?_
        simp [EWq, Env.look, pubV]
      | cons y r =>
        rw [htA] at c72a hNB
        simp only [outH, outV, ne_eq, reduceCtorEq, not_false_eq_true, if_true] at c72a hNB
        refine AWP.run (fun _ => false) tt_ok (fun _ h => nomatch h) (Nat.zero_le _) rfl ?_
        simp only [go_sem, hK, townB, bookB]
        refine c72a.call' rfl rfl rfl ?_
        simp only [go_sem]
        have hRl : (twinsP A).length ≤ A.length := twinsP_len A
        have hRl2 : (y :: r).length = (twinsP A).length := by rw [← htA, natI, List.length_map]
        generalize hn : r.length + 1 = n at *
        refine ACallV.of rfl ?_
        change ACalls prog 110 [.ref 5 n 0 n] ((hK t P ++ [.arr 1 true [], shB 4 (.obj (.map (mapM D.str (cntM A)))), rowB (y :: r)]).set 5 (rowB (y :: r))) _
        refine c110 (by simp [hK]) (by simpa using hn) (by simp at hRl2; omega) ?_
        have hSn : (sortG ltI (y :: r)).length = n := by rw [sortG_len]; simpa using hn
        generalize sortG ltI (y :: r) = M at *
        have hn8 : n ≤ 1000 := by rw [List.length_cons, hn] at hRl2; omega
        have hcr := comp_row hSn
        have hMne : M ≠ [] := fun e => by rw [e] at hSn; simp at hSn; omega
        have hlv := lvI_ne (compP_ne hMne)
        simp only [go_sem, hK, townB, bookB]
        refine ADrw.treeG (fun _ => false) tt_ok (by kernel_rfl) (fun k => if k = 0 then some .L else if k = 3 ∨ k = 4 then some .W else some .S) (.ones [1, 2] (.two 0 (.ones [3, 4, 5, 6] .done) 3 (.ones [0, 4, 5, 6] .done))) (Nat.zero_le _) (fun _ h => nomatch h) rfl rfl (by kernel_rfl) ?_
        simp only [go_sem, hK, townB, bookB]
        rw [← hNB]
        refine ⟨?_, ?_⟩
        · simp only [go_sem, hK, townB, bookB]
          change DCall prog (.fn (.func 111) [] []) [.ref 5 n 0 n] ((hK t P ++ [.arr 1 true [], shB 4 (.obj (.map (mapM D.str (cntM A)))), rowB M]).set 5 (rowB M)) _
          refine c111D (by simp [hK]) hSn hn8 ?_
          simp only [go_sem, hK, townB, bookB, rowB, hcr.1, hcr.2, hPl, hPk, hlv, bookD]
        · change DCall prog (.fn (.func 111) [] []) [.ref 5 n 0 n] ((hK t P ++ [.arr 1 true [], shB 4 (.obj (.map (mapM D.str (cntM A)))), rowB M]).set 5 (rowB M)) _
          refine c111D (by simp [hK]) hSn hn8 ?_
          simp only [go_sem, hK, townB, bookB, rowB, hcr.1, hcr.2, hPl, hPk, hlv, bookD]
    · rw [if_neg htw] at hNB
      have htl : (twinsP ch).length ≤ ch.length := twinsP_len ch
      have h0 : decide ((twinsP ch).length = 0) = false := decide_eq_false fun e => htw (List.length_eq_zero_iff.1 e)
      rw [h0]
      have hL : ((twinsP ch).map fun i => ch.getD i default) ≠ [] := fun e => htw (List.map_eq_nil_iff.1 e)
      have hLl : ((twinsP ch).map fun i => ch.getD i default).length = (twinsP ch).length := by simp
      generalize ((twinsP ch).map fun i => ch.getD i default) = L at *
      generalize hn : (twinsP ch).length = n at *
      rw [if_pos hL] at hNB
      have hLm : (L.map (D.int .i64)).length = n := by simp [hLl]
      refine AWP.runS (fun _ => false) tt_ok (fun _ h => nomatch h) (Nat.zero_le _) rfl ?_
      simp only [go_sem, hK, townB, bookB, hLm]
      refine ACallV.of rfl ?_
      change ACalls prog 110 [.ref 3 n 0 n] ((hK t P ++ [rowB L]).set 3 (rowB L)) _
      refine c110 (by simp [hK]) hLl (by omega) ?_
      have hSn : (sortG ltI L).length = n := by rw [sortG_len, hLl]
      generalize sortG ltI L = M at *
      have hcr := comp_row hSn
      have hMne : M ≠ [] := fun e => hL (by rw [e] at hSn; exact List.length_eq_zero_iff.1 (by rw [hLl, ← hSn]; rfl))
      have hlv := lvI_ne (compP_ne hMne)
      simp only [go_sem, hK, townB, bookB]
      refine ADrw.treeG (fun _ => false) tt_ok (by kernel_rfl) (fun k => if k = 0 then some .L else if k = 3 ∨ k = 4 then some .W else some .S) (.ones [1, 2] (.two 0 (.ones [3, 4, 5, 6] .done) 3 (.ones [0, 4, 5, 6] .done))) (Nat.zero_le _) (fun _ h => nomatch h) rfl rfl (by kernel_rfl) ?_
      simp only [go_sem, hK, townB, bookB]
      rw [← hNB]
      refine ⟨?_, ?_⟩
      · simp only [go_sem, hK, townB, bookB]
        change DCall prog (.fn (.func 111) [] []) [.ref 3 n 0 n] ((hK t P ++ [rowB M]).set 3 (rowB M)) _
        refine c111D (by simp [hK]) hSn (by omega) ?_
        simp only [go_sem, hK, townB, bookB, rowB, hcr.1, hcr.2, hPl, hPk, hlv, bookD]
      · change DCall prog (.fn (.func 111) [] []) [.ref 3 n 0 n] ((hK t P ++ [rowB M]).set 3 (rowB M)) _
        refine c111D (by simp [hK]) hSn (by omega) ?_
        simp only [go_sem, hK, townB, bookB, rowB, hcr.1, hcr.2, hPl, hPk, hlv, bookD]
end Go.Aw
end

section
set_option maxRecDepth 100000
namespace Go.Aw
open Go Go.Proofs.Tryz

/-! ### Sorted lists of integers -/

theorem asc_ext : ∀ {l m : List Int}, l.Pairwise (· < ·) → m.Pairwise (· < ·) → (∀ x, x ∈ l ↔ x ∈ m) → l = m
  | [], [], _, _, _ => rfl
  | [], y :: m, _, _, h => by have := (h y).2 List.mem_cons_self; simp at this
  | x :: l, [], _, _, h => by have := (h x).1 List.mem_cons_self; simp at this
  | x :: l, y :: m, h1, h2, h => by
    have hx := (h x).1 List.mem_cons_self
    have hy := (h y).2 List.mem_cons_self
    obtain ⟨a1, a2⟩ := List.pairwise_cons.1 h1
    obtain ⟨b1, b2⟩ := List.pairwise_cons.1 h2
    have hxy : x = y := by
      rcases List.mem_cons.1 hx with e | e
      · exact e
      · rcases List.mem_cons.1 hy with e' | e'
        · exact e'.symm
        · have := b1 x e; have := a1 y e'; omega
    subst hxy
    congr 1
    refine asc_ext a2 b2 fun z => ⟨fun hz => ?_, fun hz => ?_⟩
    · rcases List.mem_cons.1 ((h z).1 (List.mem_cons_of_mem _ hz)) with e | e
      · subst e; have := a1 z hz; omega
      · exact e
    · rcases List.mem_cons.1 ((h z).2 (List.mem_cons_of_mem _ hz)) with e | e
      · subst e; have := b1 z hz; omega
      · exact e

theorem sorted_get {l : List Int} (h : SortedG ltI l) {i j : Nat} (hij : i ≤ j) (hj : j < l.length) : l.getD i default ≤ l.getD j default := by
  rw [getDG (by omega), getDG hj]
  rcases Nat.lt_or_ge i j with h1 | h1
  · have := List.pairwise_iff_getElem.1 h i j (by omega) hj h1
    simp only [ltI, decide_eq_false_iff_not] at this
    omega
  · have : i = j := by omega
    subst this; exact Int.le_refl _

theorem compP_mem {l : List Int} {x : Int} : x ∈ compP l ↔ x ∈ l := by
  constructor
  · intro h
    obtain ⟨i, hi, rfl⟩ := List.mem_map.1 h
    have := (List.mem_filter.1 hi).1
    rw [List.mem_range] at this
    rw [getDG this]; exact List.getElem_mem _
  · intro h
    obtain ⟨i, hi, rfl⟩ := List.getElem_of_mem h
    have key : ∀ i, i < l.length → l.getD i default ∈ compP l := by
      intro i
      induction i with
      | zero => intro hi; exact List.mem_map.2 ⟨0, List.mem_filter.2 ⟨List.mem_range.2 hi, rfl⟩, rfl⟩
      | succ i ih =>
        intro hi
        by_cases e : l.getD (i + 1) default = l.getD i default
        · rw [e]; exact ih (by omega)
        · refine List.mem_map.2 ⟨i + 1, List.mem_filter.2 ⟨List.mem_range.2 hi, ?_⟩, rfl⟩
          rw [newAt, show i + 1 - 1 = i from rfl, decide_eq_false e]; simp
    have := key i hi
    rwa [getDG hi] at this

theorem compP_asc {l : List Int} (h : SortedG ltI l) : (compP l).Pairwise (· < ·) := by
  rw [compP, dedP, List.pairwise_map]
  have hr : ((List.range l.length).filter (newAt l)).Pairwise (· < ·) := List.Pairwise.filter _ List.pairwise_lt_range
  refine hr.imp_of_mem fun {i j} hi hj hij => ?_
  obtain ⟨_, h1⟩ := List.mem_filter.1 hi
  obtain ⟨h2, h3⟩ := List.mem_filter.1 hj
  rw [List.mem_range] at h2
  have a1 := sorted_get h (i := i) (j := j - 1) (by omega) (by omega)
  have a2 := sorted_get h (i := j - 1) (j := j) (by omega) h2
  rw [newAt, decide_eq_false (show ¬ j = 0 by omega)] at h3
  simp only [Bool.false_or, Bool.not_eq_true', decide_eq_false_iff_not] at h3
  omega

theorem natI_asc {l : List Nat} (h : l.Pairwise (· < ·)) : (natI l).Pairwise (· < ·) := by
  rw [natI, List.pairwise_map]
  exact h.imp fun h => by omega

theorem comp_sort {l : List Int} {m : List Nat} (hm : m.Pairwise (· < ·)) (h : ∀ x, x ∈ l ↔ x ∈ natI m) : compP (sortG ltI l) = natI m :=
  asc_ext (compP_asc (sortG_sorted ltI_ok l)) (natI_asc hm) fun x => by rw [compP_mem, sortG_mem, h]

theorem filter_asc (n : Nat) (p : Nat → Bool) : ((List.range n).filter p).Pairwise (· < ·) := List.Pairwise.filter _ List.pairwise_lt_range

/-! ### How streets are called -/

def selC (s : Nat) (hour : Int) (c : Chg) : Bool := decide (c.at' ≤ hour) && decide (c.st = (s : Int))

def lastP (z : ByteArray) (l : List Chg) : ByteArray × Int :=
  match l.getLast? with
  | none => (z, 0)
  | some c => (c.name, c.at')

theorem lastP_snoc (z : ByteArray) (l : List Chg) (c : Chg) : lastP z (l ++ [c]) = (c.name, c.at') := by simp [lastP]
theorem lastP_app (z : ByteArray) (l m : List Chg) (h : m ≠ []) : lastP z (l ++ m) = lastP z m := by
  simp only [lastP, List.getLast?_append]
  cases hm : m.getLast? with
  | none => exact absurd (List.getLast?_eq_none_iff.1 hm) h
  | some c => simp

theorem lastP_at (z : ByteArray) {l : List Chg} {p : Int → Prop} (h0 : p 0) (h : ∀ c ∈ l, p c.at') : p (lastP z l).2 := by
  unfold lastP
  cases hm : l.getLast? with
  | none => exact h0
  | some c => exact h c (List.mem_of_getLast? hm)

theorem lastP_at' (z : ByteArray) {l : List Chg} {p : Int → Prop} (h0 : l ≠ []) (h : ∀ c ∈ l, p c.at') : p (lastP z l).2 := by
  unfold lastP
  cases hm : l.getLast? with
  | none => exact absurd (List.getLast?_eq_none_iff.1 hm) h0
  | some c => exact h c (List.mem_of_getLast? hm)

theorem sorted_tail {x : Chg} {l : List Chg} (h : SortedG ltC l) : ∀ c ∈ l.dropWhile (fun y => !ltC x y), x.at' < c.at' := by
  intro c hc
  have h' := h
  rw [SortedG, ← List.takeWhile_append_dropWhile (p := fun y => !ltC x y) (l := l), List.pairwise_append] at h'
  cases hd : l.dropWhile (fun y => !ltC x y) with
  | nil => rw [hd] at hc; simp at hc
  | cons y r =>
    have hy := dropWhile_head hd
    simp only [Bool.not_eq_false', ltC, decide_eq_true_eq] at hy
    rw [hd] at hc h'
    rcases List.mem_cons.1 hc with rfl | hc
    · exact hy
    · have := List.rel_of_pairwise_cons h'.2.1 hc
      simp only [ltC, decide_eq_false_iff_not] at this
      omega

theorem callP_eq (z : ByteArray) (s : Nat) (hour : Int) (l : List Chg) : (∀ c ∈ l, 0 ≤ c.at') → callP l z s hour = lastP z ((sortG ltC l).filter (selC s hour)) := by
  induction l using snoc_ind with
  | h0 => intro _; rfl
  | h1 l x ih =>
    intro hl
    have ih := ih fun c hc => hl c (List.mem_append_left _ hc)
    have hx := hl x (by simp)
    have e : callP (l ++ [x]) z s hour = if x.st = (s : Int) ∧ x.at' ≤ hour ∧ (callP l z s hour).2 ≤ x.at' then (x.name, x.at') else callP l z s hour := by rw [callP, List.foldl_append]; rfl
    rw [e, sortG_snoc]
    have hso := sortG_sorted ltC_ok l
    have ht := sorted_tail (x := x) hso
    have hA : ∀ c ∈ (sortG ltC l).takeWhile (fun y => !ltC x y), c.at' ≤ x.at' := fun c hc => by
      have := takeWhile_mem hc
      simp only [ltC, Bool.not_eq_true', decide_eq_false_iff_not] at this
      omega
    cases hs : selC s hour x with
    | false =>
      rw [filter_insG hs, ← ih, if_neg]
      intro ⟨a, b, _⟩
      rw [selC, decide_eq_true a, decide_eq_true b] at hs; cases hs
    | true =>
      simp only [selC, Bool.and_eq_true, decide_eq_true_eq] at hs
      have hs' : selC s hour x = true := by simp [selC, hs]
      have hsp := List.takeWhile_append_dropWhile (p := fun y => !ltC x y) (l := sortG ltC l)
      rw [insG]
      generalize (sortG ltC l).takeWhile (fun y => !ltC x y) = A at *
      generalize (sortG ltC l).dropWhile (fun y => !ltC x y) = B at *
      rw [ih, ← hsp, List.filter_append, List.filter_append, List.filter_cons, if_pos hs']
      by_cases hB : B.filter (selC s hour) = []
      · rw [hB, List.append_nil, lastP_snoc, if_pos]
        exact ⟨hs.2, hs.1, lastP_at z (p := fun n => n ≤ x.at') hx fun c hc => hA c ((List.mem_filter.1 hc).1)⟩
      · rw [lastP_app _ _ _ hB, lastP_app _ _ _ (List.cons_ne_nil _ _), show x :: B.filter (selC s hour) = [x] ++ B.filter (selC s hour) from rfl, lastP_app _ _ _ hB, if_neg]
        rintro ⟨_, _, h3⟩
        have := lastP_at' z (p := fun n => x.at' < n) hB fun c hc => ht c ((List.mem_filter.1 hc).1)
        omega

theorem applyC_get (ns : List ByteArray) {s : Nat} (hs : s < ns.length) (L : List Chg) : (∀ c ∈ L, 0 ≤ c.st) → (applyC L ns).getD s default = (lastP (ns.getD s default) (L.filter fun c => decide (c.st = (s : Int)))).1 := by
  induction L using snoc_ind with
  | h0 => intro _; rfl
  | h1 L x ih =>
    intro hL
    have ih := ih fun c hc => hL c (List.mem_append_left _ hc)
    have hx := hL x (by simp)
    rw [applyC_snoc, List.filter_append, List.filter_cons, List.filter_nil]
    by_cases e : x.st = (s : Int)
    · rw [decide_eq_true e, if_pos rfl, lastP_snoc, e, Int.toNat_natCast, getDG (by rw [List.length_set, applyC_len]; exact hs), List.getElem_set_self]
    · rw [decide_eq_false e, if_neg (by simp), List.append_nil, ← ih, List.getD_eq_getElem?_getD, List.getD_eq_getElem?_getD, List.getElem?_set_ne (by omega)]

variable {t : Town}

theorem Town.Ok.at' (ht : t.Ok) {c : Chg} (hc : c ∈ t.ch) : 1 ≤ c.at' ∧ c.at' ≤ 1000 := by
  have := ht.chs c hc
  simp only [chgOk, Bool.and_eq_true, decide_eq_true_eq] at this
  exact this.1.1
theorem Town.Ok.st (ht : t.Ok) {c : Chg} (hc : c ∈ t.ch) : 0 ≤ c.st ∧ c.st < t.first.length := by
  have := ht.chs c hc
  simp only [chgOk, Bool.and_eq_true, decide_eq_true_eq] at this
  exact this.1.2
theorem Town.Ok.nm (ht : t.Ok) {c : Chg} (hc : c ∈ t.ch) : nm c.name = true := by
  have := ht.chs c hc
  simp only [chgOk, Bool.and_eq_true, decide_eq_true_eq] at this
  exact this.2

theorem namesT_len (t : Town) (h : Int) : (namesT t h).length = t.first.length := by simp [namesT]
theorem namesT_get {s : Nat} (hs : s < t.first.length) (h : Int) : (namesT t h).getD s default = calledT t s h := by
  rw [getDG (by rw [namesT_len]; exact hs)]; simp [namesT]

theorem namesT_eq (ht : t.Ok) (h : Int) : namesT t h = applyC ((sortG ltC t.ch).filter fun c => decide (c.at' ≤ h)) t.first := by
  refine List.ext_getElem (by rw [namesT_len, applyC_len]) fun s h1 h2 => ?_
  have hs : s < t.first.length := by rwa [namesT_len] at h1
  have := applyC_get t.first hs ((sortG ltC t.ch).filter fun c => decide (c.at' ≤ h)) fun c hc => (ht.st (sortG_mem.1 ((List.mem_filter.1 hc).1))).1
  rw [getDG h2] at this
  rw [this, ← getDG h1, namesT_get hs, calledT, callP_eq _ _ _ _ fun c hc => by have := ht.at' hc; omega, List.filter_filter]
  congr 3
  funext c
  rw [selC, Bool.and_comm]

theorem alikeT_eq (t : Town) (h : Int) : alikeT t h = twinsP (namesT t h) := by
  rw [alikeT, twinsP, namesT_len]
  refine List.filter_congr fun s hs => ?_
  rw [namesT_get (by simpa using hs)]

theorem len_filter_insG {α : Type} [Inhabited α] (lt : α → α → Bool) (p : α → Bool) (x : α) (l : List α) : ((insG lt x l).filter p).length = (l.filter p).length + if p x = true then 1 else 0 := by
  have := congrArg (fun l => (List.filter p l).length) (List.takeWhile_append_dropWhile (p := fun y => !lt x y) (l := l))
  simp only [List.filter_append, List.length_append] at this
  rw [insG, List.filter_append, List.filter_cons, List.length_append]
  split <;> simp <;> omega

theorem len_filter_sortG {α : Type} [Inhabited α] (lt : α → α → Bool) (p : α → Bool) (l : List α) : ((sortG lt l).filter p).length = (l.filter p).length := by
  induction l using snoc_ind with
  | h0 => rfl
  | h1 l x ih =>
    rw [sortG_snoc, len_filter_insG, ih, List.filter_append, List.filter_cons, List.filter_nil, List.length_append]
    split <;> simp

theorem cntL_filter (s : Int) (g : List Chg) : cntL s (g.map (·.st)) = (g.filter fun c => decide (c.st = s)).length := by
  rw [cntL, List.count_eq_countP, List.countP_map, List.countP_eq_length_filter]
  congr 1

theorem drop_takeWhile {α : Type} (p : α → Bool) : ∀ S : List α, S.drop (S.takeWhile p).length = S.dropWhile p
  | [] => rfl
  | a :: S => by
    rw [List.takeWhile_cons, List.dropWhile_cons]
    split
    · rw [List.length_cons, List.drop_succ_cons, drop_takeWhile p S]
    · rfl

/-! ### The pages -/

/-- The pages of a town whose changes never clash. -/
structure PgOk (t : Town) (P : List Page) : Prop where
  asc : P.Pairwise fun p q => p.hour < q.hour
  head : ∃ r, P = ⟨0, t.first⟩ :: r
  nms : ∀ p ∈ P, p.names = namesT t p.hour
  hrs : ∀ p ∈ P, 0 ≤ p.hour ∧ p.hour ≤ 1000
  all : ∀ c ∈ t.ch, ∃ p ∈ P, p.hour = c.at'
  len : P.length ≤ 9

def NbOk (t : Town) (R : List Page × Int × List Int) : Prop :=
  (∃ h, (1 ≤ h ∧ h ≤ 1000) ∧ R.2 = (h, natI (clashT t h)) ∧ clashT t h ≠ [] ∧ ∀ k, 1 ≤ k → k < h → clashT t k = []) ∨
  (R.2 = (0, []) ∧ (∀ k, 1 ≤ k → clashT t k = []) ∧ PgOk t R.1)

theorem strs_twice (ht : t.Ok) {h h0 : Int} {done rest g : List Chg} (hS : sortG ltC t.ch = done ++ rest) (hd : ∀ c ∈ done, c.at' ≤ h0) (h0h : h0 < h) (hg : rest.filter (fun c => decide (c.at' = h)) = g) :
    twiceT t h = (List.range t.first.length).filter fun s : Nat => decide (1 < cntL (s : Int) (g.map (·.st))) := by
  refine List.filter_congr fun s _ => ?_
  have e := len_filter_sortG ltC (fun c => decide (c.at' = h ∧ c.st = (s : Int))) t.ch
  rw [← e, hS, List.filter_append, cntL_filter, ← hg, List.filter_filter]
  have : done.filter (fun c => decide (c.at' = h ∧ c.st = (s : Int))) = [] := by
    rw [List.filter_eq_nil_iff]
    intro c hc
    have := hd c hc
    simp only [decide_eq_true_eq]; omega
  rw [this, List.nil_append]
  congr 3
  refine List.filter_congr fun c _ => ?_
  rw [Bool.eq_iff_iff, Bool.and_eq_true, decide_eq_true_eq, decide_eq_true_eq, decide_eq_true_eq]
  exact And.comm

theorem nbF_spec (ht : t.Ok) : ∀ (f : Nat) (P : List Page) (h0 : Int) (done rest : List Chg), sortG ltC t.ch = done ++ rest → rest.length < f → (∀ c ∈ done, c.at' ≤ h0) → (∀ c ∈ rest, h0 < c.at') → 0 ≤ h0 →
    P.Pairwise (fun p q => p.hour < q.hour) → (∃ r, P = ⟨0, t.first⟩ :: r) → (∀ p ∈ P, p.names = namesT t p.hour) → (∀ p ∈ P, 0 ≤ p.hour ∧ p.hour ≤ h0 ∧ p.hour ≤ 1000) → (∀ c ∈ done, ∃ p ∈ P, p.hour = c.at') → P.length + rest.length ≤ 9 →
    (∀ k, 1 ≤ k → k ≤ h0 → clashT t k = []) → twinsP (applyC done t.first) = [] → NbOk t (nbF f P (applyC done t.first) rest) := by
  intro f
  induction f with
  | zero => intro P h0 done rest _ hf; omega
  | succ f ih =>
    intro P h0 done rest hS hf hd hr h00 hasc hhead hnms hhrs hall hlen hcl htw
    have hnm : ∀ k, h0 ≤ k → (∀ c ∈ rest, k < c.at') → namesT t k = applyC done t.first := fun k hk hk2 => by
      rw [namesT_eq ht, hS, List.filter_append, List.filter_eq_self.2 fun c hc => by have := hd c hc; simp only [decide_eq_true_eq]; omega,
        List.filter_eq_nil_iff.2 fun c hc => by have := hk2 c hc; simp only [decide_eq_true_eq]; omega, List.append_nil]
    have hno : ∀ k, h0 < k → (∀ c ∈ rest, k < c.at') → clashT t k = [] := fun k hk hk2 => by
      have h1 : twiceT t k = [] := by
        rw [strs_twice ht hS hd hk rfl, show rest.filter (fun c => decide (c.at' = k)) = [] from List.filter_eq_nil_iff.2 fun c hc => by have := hk2 c hc; simp only [decide_eq_true_eq]; omega, List.filter_eq_nil_iff]
        intro s _
        simp [cntL]
      rw [clashT, if_neg (by rw [h1]; simp), alikeT_eq, hnm k (by omega) hk2, htw]
    cases rest with
    | nil =>
      refine .inr ⟨rfl, fun k hk => ?_, ⟨hasc, hhead, hnms, fun p hp => ⟨(hhrs p hp).1, (hhrs p hp).2.2⟩, fun c hc => hall c ?_, by rw [nbF]; simpa using hlen⟩⟩
      · rcases Int.lt_or_le h0 k with h | h
        · exact hno k h (fun c hc => by simp at hc)
        · exact hcl k hk h
      · have := (sortG_mem (lt := ltC)).2 hc
        rwa [hS, List.append_nil] at this
    | cons c r =>
      rw [nbF]
      have hgS := List.takeWhile_append_dropWhile (p := fun d : Chg => decide (d.at' = c.at')) (l := c :: r)
      have hdrop : (c :: r).drop (grp (c :: r) c.at').length = (c :: r).dropWhile fun d => decide (d.at' = c.at') := by
        exact drop_takeWhile _ _
      have hsort := sortG_sorted ltC_ok t.ch
      rw [hS, SortedG, List.pairwise_append] at hsort
      have hcr := List.pairwise_cons.1 hsort.2.1
      have hge : ∀ d ∈ c :: r, c.at' ≤ d.at' := fun d hd => by
        rcases List.mem_cons.1 hd with rfl | hd
        · omega
        · have := hcr.1 d hd
          simp only [ltC, decide_eq_false_iff_not] at this
          omega
      have hgt : ∀ d ∈ (c :: r).dropWhile (fun d => decide (d.at' = c.at')), c.at' < d.at' := fun d hd => by
        have hp := hsort.2.1
        rw [← hgS, List.pairwise_append] at hp
        cases hw : (c :: r).dropWhile (fun d => decide (d.at' = c.at')) with
        | nil => rw [hw] at hd; simp at hd
        | cons y m =>
          have hy := dropWhile_head hw
          have hy1 := hge y (by rw [← hgS, hw]; simp)
          simp only [decide_eq_false_iff_not] at hy
          rw [hw] at hd hp
          rcases List.mem_cons.1 hd with rfl | hd
          · omega
          · have := List.rel_of_pairwise_cons hp.2.1 hd
            simp only [ltC, decide_eq_false_iff_not] at this
            omega
      have hgeq : ∀ d ∈ grp (c :: r) c.at', d.at' = c.at' := fun d hd => by simpa using takeWhile_mem hd
      have hg1 : grp (c :: r) c.at' ≠ [] := by simp [grp]
      have hc0 := hr c List.mem_cons_self
      have hct : c ∈ t.ch := (sortG_mem (lt := ltC)).1 (by rw [hS]; simp)
      have hc1 := ht.at' hct
      rw [hdrop]
      have hgS' : grp (c :: r) c.at' ++ (c :: r).dropWhile (fun d => decide (d.at' = c.at')) = c :: r := hgS
      have hfil : (c :: r).filter (fun d => decide (d.at' = c.at')) = grp (c :: r) c.at' := by
        conv => lhs; rw [← hgS']
        rw [List.filter_append, List.filter_eq_self.2 fun d hd => by simp [hgeq d hd], List.filter_eq_nil_iff.2 fun d hd => by have := hgt d hd; simp only [decide_eq_true_eq]; omega, List.append_nil]
      have htw2 := strs_twice ht hS hd hc0 hfil
      have hnc : namesT t c.at' = applyC (done ++ grp (c :: r) c.at') t.first := by
        rw [namesT_eq ht, hS, show done ++ c :: r = done ++ (grp (c :: r) c.at' ++ List.dropWhile (fun d => decide (d.at' = c.at')) (c :: r)) by rw [hgS'], List.filter_append, List.filter_append, List.filter_eq_self.2 fun c hc => by have := hd c hc; simp only [decide_eq_true_eq]; omega,
          List.filter_eq_self.2 fun d hd => by have := hgeq d hd; simp only [decide_eq_true_eq]; omega, List.filter_eq_nil_iff.2 fun d hd => by have := hgt d hd; simp only [decide_eq_true_eq]; omega, List.append_nil]
      have happ : applyC (done ++ grp (c :: r) c.at') t.first = applyC (grp (c :: r) c.at') (applyC done t.first) := by rw [applyC, List.foldl_append]; rfl
      have hgl : (grp (c :: r) c.at').length + ((c :: r).dropWhile (fun d => decide (d.at' = c.at'))).length = (c :: r).length := by rw [← List.length_append, hgS']
      have hgpos := List.length_pos_iff.2 hg1
      have hgst : ∀ d ∈ grp (c :: r) c.at', 0 ≤ d.st ∧ d.st < t.first.length := fun d hd => ht.st ((sortG_mem (lt := ltC)).1 (by rw [hS]; exact List.mem_append_right _ (by rw [← hgS']; exact List.mem_append_left _ hd)))
      rw [← happ]
      generalize hw : (c :: r).dropWhile (fun d => decide (d.at' = c.at')) = w at *
      have hstr : compP (sortG ltI (strs (grp (c :: r) c.at') (applyC done t.first))) = natI (clashT t c.at') := by
        rw [strs, clashT, alikeT_eq, hnc, htw2, ← happ]
        have htm : ∀ x : Int, x ∈ ((twinsP ((grp (c :: r) c.at').map (·.st))).map fun i => ((grp (c :: r) c.at').map (·.st)).getD i default) ↔ x ∈ natI ((List.range t.first.length).filter fun s : Nat => decide (1 < cntL (s : Int) ((grp (c :: r) c.at').map (·.st)))) := by
          intro x
          rw [List.mem_map, natI, List.mem_map]
          constructor
          · rintro ⟨i, hi, rfl⟩
            obtain ⟨h1, h2⟩ := List.mem_filter.1 hi
            rw [List.mem_range] at h1
            rw [getDG h1] at h2 ⊢
            obtain ⟨d, hd, he⟩ := List.mem_map.1 (List.getElem_mem h1)
            obtain ⟨b1, b2⟩ := hgst d hd
            refine ⟨d.st.toNat, List.mem_filter.2 ⟨List.mem_range.2 (by omega), ?_⟩, by rw [← he]; omega⟩
            rw [show ((d.st.toNat : Nat) : Int) = d.st by omega, he]; exact h2
          · rintro ⟨s, hs, rfl⟩
            obtain ⟨h1, h2⟩ := List.mem_filter.1 hs
            simp only [decide_eq_true_eq] at h2
            have hmem : (s : Int) ∈ (grp (c :: r) c.at').map (·.st) := List.count_pos_iff.1 (by rw [cntL] at h2; omega)
            obtain ⟨i, hi, he⟩ := List.getElem_of_mem hmem
            refine ⟨i, List.mem_filter.2 ⟨List.mem_range.2 hi, ?_⟩, by rw [getDG hi, he]⟩
            rw [getDG hi, he]; simpa using h2
        have hem : twinsP ((grp (c :: r) c.at').map (·.st)) = [] ↔ ((List.range t.first.length).filter fun s : Nat => decide (1 < cntL (s : Int) ((grp (c :: r) c.at').map (·.st)))) = [] := by
          constructor
          · intro e
            rw [e] at htm
            rw [List.eq_nil_iff_forall_not_mem]
            intro s hs
            have := (htm s).2 (List.mem_map.2 ⟨s, hs, rfl⟩)
            simp at this
          · intro e
            rw [e] at htm
            rw [List.eq_nil_iff_forall_not_mem]
            intro i hi
            have := (htm _).1 (List.mem_map.2 ⟨i, hi, rfl⟩)
            simp [natI] at this
        by_cases e : twinsP ((grp (c :: r) c.at').map (·.st)) = []
        · rw [if_pos e, if_neg (by rw [hem.1 e]; simp)]
          exact comp_sort (filter_asc _ _) fun x => by rw [happ]
        · rw [if_neg e, if_pos (fun e' => e (hem.2 e'))]
          exact comp_sort (filter_asc _ _) htm
      have hbefore : ∀ k, 1 ≤ k → k < c.at' → clashT t k = [] := fun k hk hkc => by
        rcases Int.lt_or_le h0 k with h | h
        · exact hno k h fun d hd => by have := hge d hd; omega
        · exact hcl k hk h
      split
      · rename_i hne
        refine .inl ⟨c.at', hc1, ?_, ?_, hbefore⟩
        · rw [hstr]
        · intro e
          rw [e] at hstr
          exact compP_ne (fun e2 => hne (List.length_eq_zero_iff.1 (by rw [← sortG_len ltI, e2]; rfl))) hstr
      · rename_i hne
        have hne' : strs (grp (c :: r) c.at') (applyC done t.first) = [] := Classical.not_not.1 hne
        rw [hne'] at hstr
        have hcle : clashT t c.at' = [] := by
          have : natI (clashT t c.at') = [] := hstr.symm
          exact List.map_eq_nil_iff.1 this
        refine ih _ c.at' _ _ (by rw [hS, List.append_assoc, hgS']) (by simp only [List.length_cons] at hf hgl; omega) (fun d hd' => ?_) (fun d hd => hgt d hd) (by omega) ?_ ?_ ?_ ?_ ?_ ?_ ?_ ?_
        · rcases List.mem_append.1 hd' with h | h
          · have := hd d h; omega
          · have := hgeq d h; omega
        · rw [List.pairwise_append]
          refine ⟨hasc, List.pairwise_singleton _ _, fun p hp q hq => ?_⟩
          rw [List.mem_singleton.1 hq]
          have := hhrs p hp
          show p.hour < c.at'
          omega
        · obtain ⟨r', hr'⟩ := hhead
          exact ⟨r' ++ [⟨c.at', applyC (done ++ grp (c :: r) c.at') t.first⟩], by rw [hr']; rfl⟩
        · intro p hp
          rcases List.mem_append.1 hp with h | h
          · exact hnms p h
          · rw [List.mem_singleton.1 h]; exact hnc.symm
        · intro p hp
          rcases List.mem_append.1 hp with h | h
          · have := hhrs p h; omega
          · rw [List.mem_singleton.1 h]; exact ⟨by show 0 ≤ c.at'; omega, Int.le_refl _, hc1.2⟩
        · intro d hd'
          rcases List.mem_append.1 hd' with h | h
          · obtain ⟨p, hp, e⟩ := hall d h
            exact ⟨p, List.mem_append_left _ hp, e⟩
          · exact ⟨_, List.mem_append_right _ (List.mem_singleton_self _), (hgeq d h).symm⟩
        · simp only [List.length_append, List.length_cons, List.length_nil] at hlen hgl ⊢; omega
        · intro k hk hkc
          rcases Int.lt_or_le k c.at' with h | h
          · exact hbefore k hk h
          · rw [show k = c.at' by omega]; exact hcle
        · have := hcle
          rw [clashT] at this
          split at this
          · rename_i h; exact absurd this h
          · rw [alikeT_eq, hnc] at this; exact this

theorem nbT_spec (ht : t.Ok) : NbOk t (nbT t) := by
  have h8 := ht.chl
  have := nbF_spec ht 9 [⟨0, t.first⟩] 0 [] (sortG ltC t.ch) rfl (by rw [sortG_len]; omega) (fun c hc => by simp at hc) (fun c hc => by have := ht.at' (sortG_mem.1 hc); omega) (Int.le_refl _)
    (List.pairwise_singleton _ _) ⟨[], rfl⟩ (fun p hp => by
      rw [List.mem_singleton.1 hp, namesT_eq ht, List.filter_eq_nil_iff.2 fun c hc => by have := ht.at' (sortG_mem.1 hc); simp only [decide_eq_true_eq]; omega]
      rfl) (fun p hp => by rw [List.mem_singleton.1 hp]; exact ⟨Int.le_refl _, Int.le_refl _, by show (0 : Int) ≤ 1000; omega⟩) (fun c hc => by simp at hc) (by rw [sortG_len, List.length_singleton]; omega) (fun k h1 h2 => by omega) ht.one
  exact this
end Go.Aw
end

section
set_option maxRecDepth 100000
namespace Go.Aw
open Go Go.Proofs.Tryz

def bookZ : D := .agg [.sl [], .sl [], .sl []]
def openB (t : Town) : D := if checkT t ≠ 0 then bookZ else bookD t (nbT t).1
def openE (t : Town) : Int := if checkT t ≠ 0 then checkT t else if (nbT t).2.2 ≠ [] then 9 else 0

theorem bin_neq_ne {es : Nat} {z x : D} {r : List D} {H : Heap} {K : V → Heap → Prop} : evBin .neq (.sl es z) (.d (.sl (x :: r))) (.slx (some true) []) H K = K (.d (.bool true)) H := by
  simp [evBin, anilr, anil, Som]
theorem bin_neq_nil {es : Nat} {z : D} {H : Heap} {K : V → Heap → Prop} : evBin .neq (.sl es z) (.slx (some true) []) (.slx (some true) []) H K = K (.d (.bool false)) H := by
  simp [evBin, anilr, anil, Som]

theorem c76 (t : Town) (hs : t.Small) : PC prog 76 [.d t.d] (.tup [.d (openB t), .d (.int .i64 (openE t))]) := by
  refine PC.run (fun _ => false) tt_ok (fn := f76) (rs := [.cell 2 137, .tmp 3]) rfl rfl rfl rfl rfl rfl rfl ?_
  simp only [go_sem, Town.d]
  refine (c17 t hs).call rfl rfl rfl ?_
  by_cases hc : checkT t = 0
  · have hok := checkT_iff.1 hc
    have e1 : openB t = bookD t (nbT t).1 := by rw [openB, if_neg (by rw [hc]; simp)]
    have e2 : openE t = if (nbT t).2.2 ≠ [] then 9 else 0 := by rw [openE, if_neg (by rw [hc]; simp)]
    rw [e1, e2, hc]
    simp only [go_sem]
    have c74a := c74 t hok
    generalize nbT t = R at *
    obtain ⟨P, hour, l⟩ := R
    simp only at c74a ⊢
    cases l with
    | nil =>
      refine c74a.call rfl rfl rfl ?_
      simp only [go_sem, bookD, lvI, bin_neq_nil, ne_eq, not_true_eq_false]
    | cons x r =>
      refine c74a.call rfl rfl rfl ?_
      simp only [go_sem, bookD, lvI, bin_neq_ne, ne_eq, not_false_eq_true]
  · have e1 : openB t = bookZ := by rw [openB, if_pos hc]
    have e2 : openE t = checkT t := by rw [openE, if_pos hc]
    rw [e1, e2]
    have d1 : decide (checkT t = 0) = false := decide_eq_false hc
    simp only [go_sem, d1, bookZ]

theorem openE_iff {t : Town} : openE t = 0 ↔ t.Ok ∧ ∀ k, 1 ≤ k → clashT t k = [] := by
  rw [openE]
  constructor
  · intro h
    split at h
    · rename_i h1; exact absurd h h1
    · rename_i h1
      have hok := checkT_iff.1 (Classical.not_not.1 h1)
      split at h
      · cases h
      · rename_i h2
        refine ⟨hok, ?_⟩
        rcases nbT_spec hok with ⟨k, _, e, hne, _⟩ | ⟨_, h3, _⟩
        · rw [e] at h2
          simp only [natI, ne_eq, List.map_eq_nil_iff, Classical.not_not] at h2
          exact absurd h2 hne
        · exact h3
  · rintro ⟨hok, h⟩
    rw [if_neg (by rw [checkT_iff.2 hok]; simp), if_neg]
    rcases nbT_spec hok with ⟨k, hk, e, hne, _⟩ | ⟨e, _, _⟩
    · exact absurd (h k hk.1) hne
    · rw [e]; simp

theorem open_pg {t : Town} (h : openE t = 0) : t.Ok ∧ openB t = bookD t (nbT t).1 ∧ PgOk t (nbT t).1 := by
  obtain ⟨hok, hcl⟩ := openE_iff.1 h
  refine ⟨hok, by rw [openB, if_neg (by rw [checkT_iff.2 hok]; simp)], ?_⟩
  rcases nbT_spec hok with ⟨k, hk, e, hne, _⟩ | ⟨e, _, h3⟩
  · exact absurd (hcl k hk.1) hne
  · exact h3

/-- When changes clash first, and of which streets; or the error. -/
def clashP (t : Town) : Int × List Int × Int :=
  if checkT t ≠ 0 then (0, [], checkT t) else if (nbT t).2.2 = [] then (0, [], 6) else ((nbT t).2.1, (nbT t).2.2, 0)

theorem c18 (t : Town) (hs : t.Small) : PC prog 18 [.d t.d] (.tup [.d (.int .i64 (clashP t).1), lvI (clashP t).2.1, .d (.int .i64 (clashP t).2.2)]) := by
  refine PC.run (fun _ => false) tt_ok (fn := f18) (rs := [.tmp 2, .tmp 3, .tmp 4]) rfl rfl rfl rfl rfl rfl rfl ?_
  simp only [go_sem, Town.d]
  refine (c17 t hs).call rfl rfl rfl ?_
  rw [clashP]
  by_cases hc : checkT t = 0
  · have hok := checkT_iff.1 hc
    rw [if_neg (by rw [hc]; simp), hc]
    simp only [go_sem]
    have c74a := c74 t hok
    generalize nbT t = R at *
    obtain ⟨P, hour, l⟩ := R
    simp only at c74a ⊢
    cases l with
    | nil =>
      refine c74a.call rfl rfl rfl ?_
      simp only [go_sem, bookD, lvI, bin_eql_nil]
    | cons x r =>
      refine c74a.call rfl rfl rfl ?_
      simp only [go_sem, bookD, lvI, bin_eql_cons]
  · rw [if_pos hc]
    have d1 : decide (checkT t = 0) = false := decide_eq_false hc
    simp only [go_sem, d1, lvI]

/-! ### Names of an hour -/

theorem c113 (p : Page) (h : Int) : PC prog 113 [.d p.d, .d (.int .i64 h)] (.d (.int .i64 (cmpI p.hour h))) := by
  refine PC.run (fun _ => false) tt_ok (fn := f113) (rs := [.tmp 4]) rfl rfl rfl rfl rfl rfl rfl ?_
  simp only [go_sem, Page.d]
  refine (c107 p.hour h).call rfl rfl rfl ?_
  simp only [go_sem]

/-- How many pages are of hours before. -/
def befP (P : List Page) (h : Int) : Nat := (P.takeWhile fun p => decide (p.hour < h)).length

theorem befP_le (P : List Page) (h : Int) : befP P h ≤ P.length := by
  have := congrArg List.length (List.takeWhile_append_dropWhile (p := fun p : Page => decide (p.hour < h)) (l := P))
  rw [List.length_append] at this
  rw [befP]; omega

theorem befP_lt {P : List Page} (ha : P.Pairwise fun p q => p.hour < q.hour) (h : Int) {i : Nat} (hi : i < P.length) : P[i].hour < h ↔ i < befP P h := by
  constructor
  · intro hp
    rcases Nat.lt_or_ge i (befP P h) with h1 | h1
    · exact h1
    · have hb : befP P h < P.length := by omega
      have h2 := takeWhile_end (fun p : Page => decide (p.hour < h)) P _ (List.getElem?_eq_getElem hb)
      simp only [decide_eq_false_iff_not] at h2
      have h3 : P[befP P h].hour ≤ P[i].hour := by
        rcases Nat.lt_or_ge (befP P h) i with h4 | h4
        · exact Int.le_of_lt (List.pairwise_iff_getElem.1 ha _ _ hb hi h4)
        · have : befP P h = i := by omega
          simp only [this]; exact Int.le_refl _
      exact absurd (show P[befP P h].hour < h by omega) h2
  · intro hp
    have h1 : (P.takeWhile fun p => decide (p.hour < h))[i]? = some P[i] := by
      rw [← take_takeWhile, List.getElem?_take_of_lt (show i < (P.takeWhile fun p => decide (p.hour < h)).length from hp), List.getElem?_eq_getElem hi]
    simpa using takeWhile_mem (List.mem_of_getElem? h1)

def fndP (P : List Page) (h : Int) : Bool :=
  match P[befP P h]? with
  | some p => decide (p.hour = h)
  | none => false

theorem cmpI_eq (x y : Int) : decide (cmpI x y = 0) = decide (x = y) := by
  unfold cmpI
  rw [Bool.eq_iff_iff, decide_eq_true_eq, decide_eq_true_eq]
  split
  · constructor <;> intro h <;> omega
  · split
    · constructor <;> intro h <;> omega
    · constructor <;> intro h <;> omega

theorem wu64 {n : Int} (h0 : 0 ≤ n) (h1 : n < 18446744073709551616) : IntKind.u64.wrap n = n := by
  have : IntKind.u64.wrap n = n % 18446744073709551616 := rfl
  omega

theorem c112 (P : List Page) (ha : P.Pairwise fun p q => p.hour < q.hour) (hl : P.length ≤ 1000) (h : Int) :
    PC prog 112 [.d (.sl (P.map Page.d)), .d (.int .i64 h), .fn (.func 113) [] []] (.tup [.d (.int .i64 (befP P h)), .d (.bool (fndP P h))]) := by
  refine PC.run (fun _ => false) tt_ok (fn := f112) (rs := [.tmp 6, .tmp 7]) rfl rfl rfl rfl rfl rfl rfl ?_
  have hPl : (P.map Page.d).length = P.length := by simp
  have hble := befP_le P h
  simp only [go_sem, hPl]
  refine ALoop.by (S := Nat × Nat) (fun s => [(10, .d (.int .i64 s.2)), (9, .d (.int .i64 s.1)), (8, .d (.int .i64 P.length)), (2, .fn (.func 113) [] []), (1, .d (.int .i64 h)), (0, .d (.sl (P.map Page.d)))]) (fun _ => []) (fun s => s.2 - s.1) (fun s => s.1 ≤ befP P h ∧ befP P h ≤ s.2 ∧ s.2 ≤ P.length) (0, P.length) (Nat.zero_le _) (fun _ h => nomatch h) ⟨Nat.zero_le _, hble, Nat.le_refl _⟩ ?_ ?_
  · exact ForgetTo.same' (Nat.zero_le _) (by simp [EWe, Env.look]) rfl
  rintro ⟨i, j⟩ ⟨h1, h2, h3⟩ hn
  dsimp only at h1 h2 h3 ⊢
  refine AWP.run (fun _ => false) tt_ok (fun _ h => nomatch h) (Nat.zero_le _) rfl ?_
  simp only [go_sem, hPl]
  cases d1 : decide ((i : Int) < (j : Int)) with
  | true =>
    have hij : i < j := by simp only [decide_eq_true_eq] at d1; omega
    obtain ⟨m, hm⟩ : ∃ m : Nat, m = (i + j) / 2 := ⟨_, rfl⟩
    have hmP : m < P.length := by omega
    have hmi : i ≤ m ∧ m < j := by omega
    have w1 : IntKind.u64.wrap (IntKind.i64.wrap ((i : Int) + (j : Int))) = ((i + j : Nat) : Int) := by rw [w64 (by omega) (by omega), wu64 (by omega) (by omega)]; omega
    have w2 : ((i + j : Nat) : Int).fdiv (2 ^ min (Int.toNat 1) IntKind.u64.bits) = (m : Int) := by
      have : (2 : Int) ^ min (Int.toNat 1) IntKind.u64.bits = 2 := rfl
      rw [this, Int.fdiv_eq_ediv_of_nonneg _ (by omega)]
      omega
    have w3 : IntKind.i64.wrap (m : Int) = m := w64 (by omega) (by omega)
    have w4 : IntKind.i64.wrap ((m : Int) + 1) = ((m + 1 : Nat) : Int) := by rw [w64 (by omega) (by omega)]; omega
    have s1 : shrO .u64 ((i + j : Nat) : Int) 1 = some (.int .u64 (m : Int)) := by rw [shrO_nn (by omega), w2]
    have hix : idx? (P.map Page.d) (m : Int) = some P[m].d := by simp [idx?, List.getElem?_eq_getElem hmP]
    have hpd : P[m].d = .agg [.int .i64 P[m].hour, .sl (P[m].names.map .str)] := rfl
    have hb := befP_lt ha h hmP
    have c113a := c113 P[m] h
    rw [hpd] at hix c113a
    have hlt := cmpI_lt P[m].hour h
    generalize P[m].hour = ph at *
    generalize P[m].names = pn at *
    generalize (i + j : Nat) = ij at *
    simp only [go_sem, w1, s1, w3, hix]
    refine c113a.call rfl rfl rfl ?_
    simp only [go_sem]
    cases d2 : decide (cmpI ph h < 0) with
    | true =>
      rw [d2] at hlt
      have : ph < h := by simpa using hlt.symm
      simp only [go_sem, d2, w4]
      refine ⟨(m + 1, j), ⟨by show m + 1 ≤ befP P h; have := hb.1 this; omega, h2, h3⟩, by show j - (m + 1) < j - i; omega, ?_⟩
      exact ForgetTo.same' (Nat.zero_le _) (by simp [EWe, Env.look]) rfl
    | false =>
      rw [d2] at hlt
      have : ¬ ph < h := by simpa using hlt.symm
      simp only [go_sem, d2]
      refine ⟨(i, m), ⟨h1, by show befP P h ≤ m; exact Nat.le_of_not_lt fun e => this (hb.2 e), by show m ≤ P.length; omega⟩, by show m - i < j - i; omega, ?_⟩
      exact ForgetTo.same' (Nat.zero_le _) (by simp [EWe, Env.look]) rfl
  | false =>
    have hij : ¬ i < j := by simp only [decide_eq_false_iff_not] at d1; omega
    have hie : i = befP P h := by omega
    rw [hie]
    cases d2 : decide ((befP P h : Int) < (P.length : Int)) with
    | true =>
      have hbP : befP P h < P.length := by simp only [decide_eq_true_eq] at d2; omega
      have hix : idx? (P.map Page.d) (befP P h : Int) = some P[befP P h].d := by simp [idx?, List.getElem?_eq_getElem hbP]
      have hf : fndP P h = decide (P[befP P h].hour = h) := by rw [fndP, List.getElem?_eq_getElem hbP]
      have hpd : P[befP P h].d = .agg [.int .i64 P[befP P h].hour, .sl (P[befP P h].names.map .str)] := rfl
      have c113a := c113 P[befP P h] h
      rw [hpd] at hix c113a
      rw [hf, ← cmpI_eq]
      generalize P[befP P h].hour = ph at *
      generalize P[befP P h].names = pn at *
      simp only [go_sem, d2, hix]
      refine c113a.call rfl rfl rfl ?_
      simp only [go_sem]
    | false =>
      have hbP : ¬ befP P h < P.length := by simp only [decide_eq_false_iff_not] at d2; omega
      have hf : fndP P h = false := by rw [fndP, List.getElem?_eq_none (by omega)]
      rw [hf]
      simp only [go_sem, d2]

/-- The page that is right in an hour. -/
def pageI (P : List Page) (h : Int) : Nat := if fndP P h = true then befP P h else befP P h - 1

theorem namesT_between {t : Town} (ht : t.Ok) {h h' : Int} (hh : ∀ c ∈ t.ch, c.at' ≤ h ↔ c.at' ≤ h') : namesT t h = namesT t h' := by
  rw [namesT_eq ht, namesT_eq ht]
  congr 1
  refine List.filter_congr fun c hc => ?_
  rw [Bool.eq_iff_iff, decide_eq_true_eq, decide_eq_true_eq]
  exact hh c (sortG_mem.1 hc)

/-- The last page up to an hour. -/
theorem page_names {t : Town} (ht : t.Ok) {P : List Page} (hP : PgOk t P) {h : Int} {i : Nat} (hi : i < P.length) (h1 : P[i].hour ≤ h) (h2 : ∀ h3 : i + 1 < P.length, h < P[i + 1].hour) : P[i].names = namesT t h := by
  rw [hP.nms _ (List.getElem_mem hi)]
  refine namesT_between ht fun c hc => ⟨fun e => by omega, fun e => ?_⟩
  obtain ⟨q, hq, hqe⟩ := hP.all c hc
  obtain ⟨j, hj, rfl⟩ := List.getElem_of_mem hq
  have ha := List.pairwise_iff_getElem.1 hP.asc
  rcases Nat.lt_or_ge i j with h3 | h3
  · have h4 := h2 (by omega)
    rcases Nat.lt_or_ge (i + 1) j with h5 | h5
    · have := ha _ _ (by omega) hj h5; omega
    · have : i + 1 = j := by omega
      subst this; omega
  · rcases Nat.lt_or_ge j i with h5 | h5
    · have := ha _ _ hj hi h5; omega
    · have : i = j := by omega
      subst this; omega

theorem pageI_ok {t : Town} (ht : t.Ok) {P : List Page} (hP : PgOk t P) {h : Int} (h0 : 0 ≤ h) : ∃ hi : pageI P h < P.length, P[pageI P h].names = namesT t h ∧ (fndP P h = false → 1 ≤ befP P h) := by
  have ha := List.pairwise_iff_getElem.1 hP.asc
  have hle := befP_le P h
  obtain ⟨r, hr⟩ := hP.head
  have hlen : 0 < P.length := by rw [hr]; simp
  have hP0 : P[0].hour = 0 := by simp [hr]
  rw [pageI]
  cases hf : fndP P h with
  | true =>
    rw [fndP] at hf
    rcases Nat.lt_or_ge (befP P h) P.length with hb | hb
    · rw [List.getElem?_eq_getElem hb] at hf
      simp only [decide_eq_true_eq] at hf
      simp only [if_true]
      exact ⟨hb, page_names ht hP hb (by omega) fun h3 => by have := ha _ _ hb h3 (by omega); omega, fun e => by cases e⟩
    · rw [List.getElem?_eq_none hb] at hf; cases hf
  | false =>
    simp only [Bool.false_eq_true, if_false]
    have h1 : 1 ≤ befP P h := by
      rcases Nat.eq_zero_or_pos (befP P h) with e | e
      · have := (befP_lt hP.asc h hlen)
        rw [e] at this
        rw [fndP, e, List.getElem?_eq_getElem hlen] at hf
        simp only [decide_eq_false_iff_not] at hf
        have h2 : ¬ P[0].hour < h := fun e => by have := this.1 e; omega
        omega
      · exact e
    have hb : befP P h - 1 < P.length := by omega
    refine ⟨hb, page_names ht hP hb ?_ ?_, fun _ => h1⟩
    · have := (befP_lt hP.asc h hb).2 (by omega); omega
    · intro h3
      have h3' : befP P h < P.length := by omega
      have e1 : befP P h - 1 + 1 = befP P h := by omega
      simp only [e1]
      have h4 : ¬ P[befP P h].hour < h := fun e => by have := (befP_lt hP.asc h h3').1 e; omega
      rw [fndP, List.getElem?_eq_getElem h3'] at hf
      simp only [decide_eq_false_iff_not] at hf
      omega

theorem c78 {t : Town} (ht : t.Ok) {P : List Page} (hP : PgOk t P) {h : Int} (h0 : 0 ≤ h) : PC prog 78 [.d (bookD t P), .d (.int .i64 h)] (.d (.sl ((namesT t h).map .str))) := by
  have hl := hP.len
  obtain ⟨hi, hnm, hf1⟩ := pageI_ok ht hP h0
  refine PC.run (fun _ => false) tt_ok (fn := f78) (rs := [.tmp 4]) rfl rfl rfl rfl rfl rfl rfl ?_
  simp only [go_sem, bookD]
  refine (c112 P hP.asc (by omega) h).call rfl rfl rfl ?_
  have hble := befP_le P h
  have hix : idx? (P.map Page.d) (pageI P h : Int) = some P[pageI P h].d := by simp [idx?, List.getElem?_eq_getElem hi]
  have hpd : P[pageI P h].d = .agg [.int .i64 P[pageI P h].hour, .sl ((namesT t h).map .str)] := by rw [← hnm]; rfl
  rw [hpd] at hix
  generalize P[pageI P h].hour = ph at *
  rw [pageI] at hix
  cases hf : fndP P h with
  | true =>
    rw [hf, if_pos rfl] at hix
    simp only [go_sem, hix]
  | false =>
    rw [hf, if_neg (by simp)] at hix
    have hw : IntKind.i64.wrap ((befP P h : Int) - 1) = ((befP P h - 1 : Nat) : Int) := by have := hf1 hf; rw [w64 (by omega) (by omega)]; omega
    simp only [go_sem, hw, hix]
end Go.Aw
end

section
set_option maxRecDepth 100000
namespace Go.Aw
open Go Go.Proofs.Tryz

theorem openB_is (t : Town) : ∃ a b c, openB t = .agg [.sl a, .sl b, .sl c] := by
  rw [openB]
  split
  · exact ⟨_, _, _, rfl⟩
  · exact ⟨_, _, _, rfl⟩

/-- The place of an element. -/
theorem c79 (l : List ByteArray) (hl : l.length ≤ 1000) (s : ByteArray) : PC prog 79 [.d (.sl (l.map .str)), .d (.str s)] (.d (.int .i64 (idx (fun x => s == x) l 0))) := by
  refine PC.run (fun _ => false) tt_ok (fn := f79) (rs := [.tmp 4]) rfl rfl rfl rfl rfl rfl rfl ?_
  simp only [go_sem, List.length_map]
  refine ALoop.by (S := Nat) (fun i => [(8, .d (.int .i64 i)), (7, .d (.int .i64 l.length)), (1, .d (.str s)), (0, .d (.sl (l.map .str)))]) (fun _ => []) (fun i => l.length - i) (fun i => i ≤ l.length ∧ idx (fun x => s == x) (l.drop i) i = idx (fun x => s == x) l 0) 0 (Nat.zero_le _) (fun _ h => nomatch h) ⟨Nat.zero_le _, rfl⟩ ?_ ?_
  · exact ForgetTo.same' (Nat.zero_le _) (by simp [EWe, Env.look]) rfl
  rintro i ⟨hi, hx⟩ hn
  refine AWP.run (fun _ => false) tt_ok (fun _ h => nomatch h) hn rfl ?_
  simp only [go_sem]
  refine Br_split (fun h => ?_) (fun h => ?_) <;> simp only [go_sem, h]
  · have hlt : i < l.length := by simpa using h
    rw [idx_drop _ hlt] at hx
    have hix : idx? (l.map D.str) (i : Int) = some (.str l[i]) := by simp [idx?, List.getElem?_eq_getElem hlt]
    have hnx : IntKind.i64.wrap ((i : Int) + 1) = (i : Int) + 1 := w64 (by omega) (by omega)
    simp only [go_sem, hix]
    refine Br_split (fun h => ?_) (fun h => ?_) <;> simp only [go_sem, h]
    · rw [h] at hx
      simp only [if_true] at hx
      rw [hx]
    · rw [h] at hx
      simp only [Bool.false_eq_true, if_false] at hx
      exact ⟨i + 1, ⟨hlt, hx⟩, by omega, ForgetTo.same' (Nat.zero_le _) (by simp [EWe, Env.look, hnx]) rfl⟩
  · have hlt : ¬ i < l.length := by simpa using h
    have : l.drop i = [] := List.drop_eq_nil_of_le (by omega)
    rw [this] at hx
    simp only [idx] at hx
    rw [← hx]

def nameP (t : Town) (s hour : Int) : ByteArray × Int :=
  if openE t ≠ 0 then (⟨#[]⟩, openE t) else if ¬(0 ≤ s ∧ s < t.first.length) then (⟨#[]⟩, 7) else if ¬(0 ≤ hour ∧ hour ≤ 1000) then (⟨#[]⟩, 3) else (calledT t s.toNat hour, 0)

theorem within_st {n : Nat} (hn : n ≤ 1000000) (s : Int) : within 0 (IntKind.i64.wrap ((n : Int) - 1)) [s] = decide (0 ≤ s ∧ s < n) := by
  rw [w64 (by omega) (by omega), within1, Bool.eq_iff_iff, decide_eq_true_eq, decide_eq_true_eq]; omega

theorem c23 (t : Town) (hs : t.Small) (s hour : Int) : PC prog 23 [.d t.d, .d (.int .i64 s), .d (.int .i64 hour)] (.tup [.d (.str (nameP t s hour).1), .d (.int .i64 (nameP t s hour).2)]) := by
  refine PC.run (fun _ => false) tt_ok (fn := f23) (rs := [.tmp 6, .tmp 7]) rfl rfl rfl rfl rfl rfl rfl ?_
  simp only [go_sem, Town.d]
  refine (c76 t hs).call rfl rfl rfl ?_
  have hsf := hs.f
  have hwi := within_st (show t.first.length ≤ 1000000 by omega) s
  rw [nameP]
  by_cases ho : openE t = 0
  · obtain ⟨hok, hb, hpg⟩ := open_pg ho
    have hbk : bookD t (nbT t).1 = .agg [.sl (t.first.map .str), .sl (t.ch.map Chg.d), .sl ((nbT t).1.map Page.d)] := rfl
    rw [if_neg (by rw [ho]; simp), ho, hb, hbk]
    simp only [go_sem, List.length_map]
    refine (c70 0 (IntKind.i64.wrap ((t.first.length : Int) - 1)) [s] (by simp)).call rfl rfl rfl ?_
    rw [hwi]
    by_cases h1 : 0 ≤ s ∧ s < t.first.length
    · rw [if_neg (by simpa using h1), decide_eq_true h1]
      simp only [go_sem]
      refine (c77 hour).call rfl rfl rfl ?_
      rw [within1]
      by_cases h2 : 0 ≤ hour ∧ hour ≤ 1000
      · rw [if_neg (by simpa using h2), decide_eq_true h2]
        simp only [go_sem]
        have c78a := c78 hok hpg h2.1
        rw [hbk] at c78a
        refine c78a.call rfl rfl rfl ?_
        obtain ⟨k, rfl⟩ : ∃ k : Nat, s = k := ⟨s.toNat, by omega⟩
        have hk : k < t.first.length := by omega
        have hix : idx? ((namesT t hour).map D.str) (k : Int) = some (.str (calledT t k hour)) := by
          rw [← namesT_get hk, getDG (by rw [namesT_len]; exact hk)]; simp [idx?, List.getElem?_eq_getElem (show k < (namesT t hour).length by rw [namesT_len]; exact hk)]
        simp only [go_sem, hix, Int.toNat_natCast]
      · rw [if_pos h2, decide_eq_false h2]
        simp only [go_sem]
    · rw [if_pos h1, decide_eq_false h1]
      simp only [go_sem]
  · have d1 : decide (openE t = 0) = false := decide_eq_false ho
    obtain ⟨x, y, z, hb⟩ := openB_is t
    rw [if_pos ho, hb]
    simp only [go_sem, d1]

def whoP (t : Town) (name : ByteArray) (hour : Int) : Int × Int :=
  if openE t ≠ 0 then (0, openE t) else if nm name = false then (0, 4) else if ¬(0 ≤ hour ∧ hour ≤ 1000) then (0, 3)
  else if idx (fun x => name == x) (namesT t hour) 0 < 0 then (0, 7) else (idx (fun x => name == x) (namesT t hour) 0, 0)

theorem c24 (t : Town) (hs : t.Small) (name : ByteArray) (hnm : name.size ≤ 1000) (hour : Int) : PC prog 24 [.d t.d, .d (.str name), .d (.int .i64 hour)] (.tup [.d (.int .i64 (whoP t name hour).1), .d (.int .i64 (whoP t name hour).2)]) := by
  refine PC.run (fun _ => false) tt_ok (fn := f24) (rs := [.tmp 6, .tmp 7]) rfl rfl rfl rfl rfl rfl rfl ?_
  simp only [go_sem, Town.d]
  refine (c76 t hs).call rfl rfl rfl ?_
  have hsf := hs.f
  rw [whoP]
  by_cases ho : openE t = 0
  · obtain ⟨hok, hb, hpg⟩ := open_pg ho
    have hbk : bookD t (nbT t).1 = .agg [.sl (t.first.map .str), .sl (t.ch.map Chg.d), .sl ((nbT t).1.map Page.d)] := rfl
    rw [if_neg (by rw [ho]; simp), ho, hb, hbk]
    simp only [go_sem, List.length_map]
    refine (c67 name (by omega)).call rfl rfl rfl ?_
    cases h1 : nm name with
    | true =>
      rw [if_neg (by simp)]
      simp only [go_sem]
      refine (c77 hour).call rfl rfl rfl ?_
      rw [within1]
      by_cases h2 : 0 ≤ hour ∧ hour ≤ 1000
      · rw [if_neg (by simpa using h2), decide_eq_true h2]
        simp only [go_sem]
        have c78a := c78 hok hpg h2.1
        rw [hbk] at c78a
        refine c78a.call rfl rfl rfl ?_
        simp only [go_sem]
        refine (c79 (namesT t hour) (by rw [namesT_len]; omega) name).call rfl rfl rfl ?_
        generalize idx (fun x => name == x) (namesT t hour) 0 = k at *
        by_cases h3 : k < 0
        · rw [if_pos h3]
          simp only [go_sem, decide_eq_true h3]
        · rw [if_neg h3]
          simp only [go_sem, decide_eq_false h3]
      · rw [if_pos h2, decide_eq_false h2]
        simp only [go_sem]
    | false =>
      rw [if_pos rfl]
      simp only [go_sem]
  · have d1 : decide (openE t = 0) = false := decide_eq_false ho
    obtain ⟨x, y, z, hb⟩ := openB_is t
    rw [if_pos ho, hb]
    simp only [go_sem, d1]
end Go.Aw
end

section
set_option maxRecDepth 100000
namespace Go.Aw
open Go Go.Proofs.Tryz

/-- The last hour of a page, by those behind it. -/
def hiP : List Page → Int
  | [] => 1000
  | q :: _ => q.hour - 1

/-- Pages with their hours. -/
def timesL : List Page → List (Int × Int × List ByteArray)
  | [] => []
  | p :: r => (p.hour, hiP r, p.names) :: timesL r

def tmV (x : Int × Int × List ByteArray) : List V := [.d (.agg [.int .i64 x.1, .int .i64 x.2.1]), .d (.sl (x.2.2.map .str))]

def bkV (t : Town) (P : List Page) : V := .fn (.func 80) [.d (bookD t P)] []

theorem c80 (t : Town) (P : List Page) (hl : P.length ≤ 1000) (hb : ∀ p ∈ P, 0 ≤ p.hour ∧ p.hour ≤ 1000) : Iter prog (bkV t P) ((timesL P).map tmV) := by
  intro yv n I Q hf hyv hI hy hend H hH
  have hHl := (hI _ _ hH).1
  have hHb := (hI _ _ hH).2
  obtain ⟨f, x, y, rfl⟩ := hf
  refine ACallV.of rfl ?_
  refine ACalls.run (fun _ => false) tt_ok (fn := f80) (rs := []) rfl rfl rfl rfl rfl rfl rfl ?_
  have hPl : (P.map Page.d).length = P.length := by simp
  simp only [go_sem, hHl, bookD, hPl, hy0 hHl]
  refine ALoop.by (S := Nat × Heap × Heap) (fun s => [(10, .d (.int .i64 s.1)), (9, .d (.int .i64 P.length)), (8, .d (.sl (P.map Page.d))), (2, .ptr n 0), (1, .fn f x y)]) (fun s => s.2.1 ++ (Blk.cells [.d (.sl (t.first.map .str)), .d (.sl (t.ch.map Chg.d)), .d (.sl (P.map Page.d))] :: s.2.2)) (fun s => P.length - s.1)
    (fun s => s.1 ≤ P.length ∧ I ((timesL (P.drop s.1)).map tmV) s.2.1) (0, H, []) (by simp [hHl]) (fun _ h => nomatch h) ⟨Nat.zero_le _, hH⟩ ?_ ?_
  · exact ForgetTo.same' (by simp [hHl]) (by simp [EWe, Env.look]) (by simp)
  rintro ⟨i, Hc, G⟩ ⟨hi, hI0⟩ hn'
  dsimp only at hi hI0 hn' ⊢
  have hcl := (hI _ _ hI0).1
  have hcb := (hI _ _ hI0).2
  generalize hbk : Blk.cells [.d (.sl (t.first.map .str)), .d (.sl (t.ch.map Chg.d)), .d (.sl (P.map Page.d))] = bk at *
  have hBl : (Hc ++ bk :: G).length = n + (G.length + 1) := by simp [hcl]
  have hBn : ∀ Y, ((Hc ++ bk :: G) ++ Y)[n]? = some bk := fun Y => by rw [List.append_assoc, hy0 hcl]; rfl
  have hB0 : (Hc ++ bk :: G)[n]? = some bk := by rw [hy0 hcl]; rfl
  have hBt : ∀ Y, ((Hc ++ bk :: G) ++ Y).take n = Hc := fun Y => by rw [List.append_assoc, htk hcl]
  have hBtt : (Hc ++ bk :: G).take n = Hc := htk hcl _
  generalize hm : n + (G.length + 1) = m at *
  have hyf := fun (X : Heap) => yield_frame hyv hI hy (r := (timesL (P.drop (i + 1))).map tmV) (a := tmV (P.getD i ⟨0, []⟩ |>.hour, hiP (P.drop (i + 1)), P.getD i ⟨0, []⟩ |>.names)) (H := Hc) (bk :: G ++ X) (by simp [tmV, VBs, VB])
  simp only [← List.cons_append, ← List.append_assoc] at hyf
  generalize hB : Hc ++ bk :: G = B at *
  refine AWP.run (fun _ => false) tt_ok (fun _ h => nomatch h) (by rw [hBl]; omega) rfl ?_
  simp only [go_sem]
  refine Br_split (fun hd => ?_) (fun hd => ?_) <;> simp only [go_sem, hd]
  · have hlt : i < P.length := by simpa using hd
    have hix : idx? (P.map Page.d) (i : Int) = some P[i].d := by simp [idx?, List.getElem?_eq_getElem hlt]
    have hpd : P[i].d = .agg [.int .i64 P[i].hour, .sl (P[i].names.map .str)] := rfl
    rw [List.drop_eq_getElem_cons hlt, timesL, List.map_cons] at hI0
    have hnx : IntKind.i64.wrap ((i : Int) + 1) = ((i + 1 : Nat) : Int) := by rw [w64 (by omega) (by omega)]; omega
    rw [hpd] at hix
    rw [show P.getD i ⟨0, []⟩ = P[i] by simp [List.getD_eq_getElem?_getD, List.getElem?_eq_getElem hlt]] at hyf
    have hyf := fun X => hyf X hI0
    generalize P[i].hour = ph at *
    generalize P[i].names = pn at *
    cases hnp : P[i + 1]? with
    | some q =>
      have hlt2 : i + 1 < P.length := by
        rcases Nat.lt_or_ge (i + 1) P.length with h | h
        · exact h
        · rw [List.getElem?_eq_none h] at hnp; cases hnp
      rw [List.getElem?_eq_getElem hlt2] at hnp
      have hq := Option.some.inj hnp
      have hqb := hb q (hq ▸ List.getElem_mem hlt2)
      have hhi : hiP (P.drop (i + 1)) = q.hour - 1 := by rw [List.drop_eq_getElem_cons hlt2, hq]; rfl
      have hix2 : idx? (P.map Page.d) ((i + 1 : Nat) : Int) = some (.agg [.int .i64 q.hour, .sl (q.names.map .str)]) := by rw [idx_nat, List.getElem?_map, List.getElem?_eq_getElem hlt2, hq]; rfl
      have hw : IntKind.i64.wrap (q.hour - 1) = q.hour - 1 := w64 (by omega) (by omega)
      have d1 : decide (((i + 1 : Nat) : Int) < (P.length : Int)) = true := decide_eq_true (by omega)
      rw [hhi] at hyf
      generalize q.hour = qh at *
      generalize hip : ((i + 1 : Nat) : Int) = ip at *
      simp only [go_sem, hix, hBl, hPl, hBn, hB0, ← hbk, hy0 hBl, hs0 hBl, hy1 hBl, hs1 hBl, hyl hBl, List.append_assoc, hnx, d1, hix2, hw]
      refine (hyf _).mono ?_
      rintro v H' ⟨H1, rfl, k1, k2, k3⟩
      rcases k3 with ⟨rfl, k3⟩ | ⟨rfl, k3⟩
      · simp only [go_sem]
        refine ⟨(i + 1, H1, G ++ [.cells [.d (.int .i64 ph), .d (.sl (pn.map .str))], .cells [.d (.int .i64 ph), .d (.int .i64 (qh - 1))]]), ⟨hlt, k3⟩, by simp only; omega, ?_⟩
        exact ForgetTo.same' (by simp [k1]; omega) (by simp [EWe, Env.look]; exact w64 (by omega) (by omega)) (by simp)
      · simp only [go_sem]
        rw [hHl, ← k1, List.append_assoc, List.take_left]
        exact ⟨.inr (by rw [k1]; exact k2), k3⟩
    | none =>
      have hlt2 : ¬ i + 1 < P.length := fun h => by rw [List.getElem?_eq_getElem h] at hnp; cases hnp
      have hhi : hiP (P.drop (i + 1)) = 1000 := by rw [List.drop_eq_nil_of_le (by omega)]; rfl
      have d1 : decide (((i + 1 : Nat) : Int) < (P.length : Int)) = false := decide_eq_false (by omega)
      rw [hhi] at hyf
      generalize hip : ((i + 1 : Nat) : Int) = ip at *
      simp only [go_sem, hix, hBl, hPl, hBn, hB0, ← hbk, hy0 hBl, hs0 hBl, hy1 hBl, hs1 hBl, hyl hBl, List.append_assoc, hnx, d1]
      refine (hyf _).mono ?_
      rintro v H' ⟨H1, rfl, k1, k2, k3⟩
      rcases k3 with ⟨rfl, k3⟩ | ⟨rfl, k3⟩
      · simp only [go_sem]
        refine ⟨(i + 1, H1, G ++ [.cells [.d (.int .i64 ph), .d (.sl (pn.map .str))], .cells [.d (.int .i64 ph), .d (.int .i64 1000)]]), ⟨hlt, k3⟩, by simp only; omega, ?_⟩
        exact ForgetTo.same' (by simp [k1]; omega) (by simp [EWe, Env.look]; exact w64 (by omega) (by omega)) (by simp)
      · simp only [go_sem]
        rw [hHl, ← k1, List.append_assoc, List.take_left]
        exact ⟨.inr (by rw [k1]; exact k2), k3⟩
  · have hie : i = P.length := by simp only [decide_eq_false_iff_not] at hd; omega
    subst hie
    rw [List.drop_length] at hI0
    rw [hHl, hBtt]
    exact ⟨.inr hcb, hend _ hI0⟩
end Go.Aw
end
