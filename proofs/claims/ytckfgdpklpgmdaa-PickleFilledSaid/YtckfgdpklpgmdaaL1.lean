/- The types of the program, as the evaluator sees them. Small functions. within, isSpan; the reference's Valid. Steps that can be so. Acid; Strengths. Strengths. Sorting by insertion. The ways in which a plate comes out. The ways in which a plate comes out: the walk. Out. For how long a plate may lie. Hours. Orders. Orders: the walk. Order. Fillings, one after another. Fillings: the walk of the closure. Fillings: whether plates of a filling have an order; what is known is kept. Fillings. Acids that are mixed. What was seen. The rust of all plates, if the bath was filled with a strength. -/
import Derived.Test.YtckfgdpklpgmdaaA6
import Derived.Test.YtckfgdpklpgmdaaProg
import Derived.KernelRfl
set_option linter.unusedSimpArgs false
set_option linter.unusedVariables false

section
set_option maxRecDepth 100000
namespace Go.Aw
open Go

def tlook : List (Nat × Ty) → Nat → Ty
  | [], _ => .no
  | (k, x) :: r, t => if k = t then x else tlook r t

def tgood (P : Program) : List (Nat × Ty) → Prop
  | [] => True
  | (k, x) :: r => x = tyOf P k ∧ tgood P r

theorem tlook_ok {P : Program} : ∀ (l : List (Nat × Ty)), tgood P l → TOK P (tlook l)
  | [], _, _ => trivial
  | (k, x) :: r, h, t => by
    simp only [tlook]
    split
    · rename_i e; subst e; rw [h.1]; exact tok P _
    · exact tlook_ok r h.2 t

def ttab : List (Nat × Ty) := [
  (1, Ty.sc D.nilf),
  (2, Ty.sc (D.int IntKind.i64 0)),
  (3, Ty.sc (D.int IntKind.i64 0)),
  (4, Ty.sc (D.bool false)),
  (5, Ty.sc (D.int IntKind.u8 0)),
  (6, Ty.sc (D.int IntKind.u8 0)),
  (7, Ty.st 4 [(0, 1, 2), (1, 1, 3), (2, 1, 4), (3, 1, 6)] [D.int IntKind.i64 0, D.int IntKind.i64 0, D.bool false, D.int IntKind.u8 0] true),
  (8, Ty.st 4 [(0, 1, 2), (1, 1, 3), (2, 1, 4), (3, 1, 6)] [D.int IntKind.i64 0, D.int IntKind.i64 0, D.bool false, D.int IntKind.u8 0] true),
  (9, Ty.sc (D.str ⟨#[]⟩)),
  (10, Ty.sc (D.str ⟨#[]⟩)),
  (11, Ty.sc (D.str ⟨#[]⟩)),
  (12, Ty.sc (D.int IntKind.u64 0)),
  (13, Ty.st 2 [(0, 1, 9), (1, 1, 12)] [D.str ⟨#[]⟩, D.int IntKind.u64 0] false),
  (14, Ty.st 2 [(0, 1, 9), (1, 1, 12)] [D.str ⟨#[]⟩, D.int IntKind.u64 0] false),
  (15, Ty.sc D.nilp),
  (16, Ty.sc D.nilp),
  (17, Ty.sc D.nilp),
  (18, Ty.st 1 [(0, 1, 17)] [D.nilp] false),
  (19, Ty.st 1 [(0, 1, 17)] [D.nilp] false),
  (21, Ty.sc (D.int IntKind.i32 0)),
  (22, Ty.st 2 [(0, 1, 3), (1, 1, 3)] [D.int IntKind.i64 0, D.int IntKind.i64 0] true),
  (23, Ty.st 2 [(0, 1, 3), (1, 1, 3)] [D.int IntKind.i64 0, D.int IntKind.i64 0] true),
  (24, Ty.sl 4 (D.agg [D.int IntKind.i64 0, D.int IntKind.i64 0, D.int IntKind.i64 0, D.int IntKind.i64 0])),
  (25, Ty.st 3 [(0, 2, 23), (2, 1, 24)] [D.int IntKind.i64 0, D.int IntKind.i64 0, D.sl []] false),
  (26, Ty.st 3 [(0, 2, 23), (2, 1, 24)] [D.int IntKind.i64 0, D.int IntKind.i64 0, D.sl []] false),
  (27, Ty.sl 1 (D.int IntKind.i64 0)),
  (28, Ty.sc D.nilf),
  (29, Ty.sc D.nilf),
  (30, Ty.sc (D.int IntKind.i64 0)),
  (31, Ty.sc D.nilf),
  (32, Ty.sl 2 (D.agg [D.int IntKind.i64 0, D.int IntKind.i64 0])),
  (34, Ty.sc D.nilf),
  (35, Ty.sc D.nilf),
  (36, Ty.sc D.nilf),
  (37, Ty.sl 2 (D.agg [D.int IntKind.i64 0, D.int IntKind.i64 0])),
  (38, Ty.st 2 [(0, 1, 3), (1, 1, 3)] [D.int IntKind.i64 0, D.int IntKind.i64 0] true),
  (39, Ty.st 2 [(0, 1, 3), (1, 1, 3)] [D.int IntKind.i64 0, D.int IntKind.i64 0] true),
  (40, Ty.sc D.nilf),
  (41, Ty.sc D.nilf),
  (42, Ty.sc D.nilf),
  (43, Ty.sc D.nilf),
  (44, Ty.sc D.nilf),
  (45, Ty.sl 1 (D.sl [])),
  (47, Ty.sc D.nilf),
  (48, Ty.sc D.nilf),
  (49, Ty.sc D.nilf),
  (50, Ty.sl 1 (D.int IntKind.i64 0)),
  (51, Ty.sc D.nilf),
  (52, Ty.sc D.nilf),
  (54, Ty.sc D.nilf),
  (55, Ty.sc D.nilf),
  (56, Ty.sc D.nilf),
  (57, Ty.sc D.nilf),
  (58, Ty.sc D.nilf),
  (60, Ty.sc D.nilf),
  (62, Ty.sc D.nilf),
  (64, Ty.sc D.nilf),
  (65, Ty.sc D.nilp),
  (66, Ty.sc D.nilf),
  (67, Ty.sc D.nilf),
  (69, Ty.sc D.nilf),
  (70, Ty.sc D.nilf),
  (71, Ty.sl 3 (D.agg [D.int IntKind.i64 0, D.int IntKind.i64 0, D.int IntKind.i64 0])),
  (72, Ty.sc D.nilf),
  (73, Ty.sc D.nilf),
  (74, Ty.st 3 [(0, 2, 23), (2, 1, 3)] [D.int IntKind.i64 0, D.int IntKind.i64 0, D.int IntKind.i64 0] true),
  (75, Ty.st 3 [(0, 2, 23), (2, 1, 3)] [D.int IntKind.i64 0, D.int IntKind.i64 0, D.int IntKind.i64 0] true),
  (76, Ty.sc D.nilf),
  (77, Ty.sc D.nilf),
  (78, Ty.sc D.nilf),
  (79, Ty.sc D.nilf),
  (80, Ty.sc D.nilf),
  (81, Ty.sl 3 (D.agg [D.int IntKind.i64 0, D.int IntKind.i64 0, D.int IntKind.i64 0])),
  (83, Ty.sc D.nilf),
  (84, Ty.sc D.nilf),
  (85, Ty.sc (D.int IntKind.i64 0)),
  (86, Ty.st 3 [(0, 2, 39), (2, 1, 85)] [D.int IntKind.i64 0, D.int IntKind.i64 0, D.int IntKind.i64 0] true),
  (87, Ty.st 3 [(0, 2, 39), (2, 1, 85)] [D.int IntKind.i64 0, D.int IntKind.i64 0, D.int IntKind.i64 0] true),
  (88, Ty.sc D.nilf),
  (90, Ty.sc D.nilf),
  (91, Ty.sc D.nilf),
  (92, Ty.sc D.nilf),
  (93, Ty.sc D.nilf),
  (94, Ty.sc D.nilf),
  (95, Ty.sc D.nilf),
  (96, Ty.sc D.nilf),
  (97, Ty.ar 3 1 5 [D.int IntKind.u8 0, D.int IntKind.u8 0, D.int IntKind.u8 0] false),
  (98, Ty.sl 4 (D.agg [D.int IntKind.u8 0, D.int IntKind.u8 0, D.int IntKind.u8 0, D.int IntKind.u8 0])),
  (99, Ty.st 4 [(0, 3, 97), (3, 1, 98)] [D.int IntKind.u8 0, D.int IntKind.u8 0, D.int IntKind.u8 0, D.sl []] false),
  (100, Ty.st 4 [(0, 3, 97), (3, 1, 98)] [D.int IntKind.u8 0, D.int IntKind.u8 0, D.int IntKind.u8 0, D.sl []] false),
  (101, Ty.sl 2 (D.agg [D.int IntKind.u8 0, D.int IntKind.u8 0])),
  (103, Ty.sc D.nilf),
  (104, Ty.sc D.nilf),
  (106, Ty.sc D.nilf),
  (107, Ty.sc D.nilf),
  (108, Ty.sc D.nilf),
  (109, Ty.sc D.nilf),
  (110, Ty.sc D.nilf),
  (111, Ty.sc D.nilf),
  (112, Ty.sc D.nilf),
  (113, Ty.ar 4 1 4 [D.bool false, D.bool false, D.bool false, D.bool false] false),
  (114, Ty.ar 4 1 5 [D.int IntKind.u8 0, D.int IntKind.u8 0, D.int IntKind.u8 0, D.int IntKind.u8 0] false),
  (115, Ty.sc D.nilf),
  (116, Ty.st 4 [(0, 2, 23), (2, 1, 3), (3, 1, 3)] [D.int IntKind.i64 0, D.int IntKind.i64 0, D.int IntKind.i64 0, D.int IntKind.i64 0] true),
  (117, Ty.st 4 [(0, 2, 23), (2, 1, 3), (3, 1, 3)] [D.int IntKind.i64 0, D.int IntKind.i64 0, D.int IntKind.i64 0, D.int IntKind.i64 0] true),
  (118, Ty.sc D.nilf),
  (119, Ty.ar 2 1 5 [D.int IntKind.u8 0, D.int IntKind.u8 0] false),
  (120, Ty.sc D.nilf),
  (121, Ty.sc D.nilf),
  (122, Ty.sc D.nilf),
  (123, Ty.sc D.nilf),
  (124, Ty.sl 3 (D.agg [D.int IntKind.u8 0, D.int IntKind.u8 0, D.int IntKind.u8 0])),
  (125, Ty.sc D.nilf),
  (126, Ty.sc D.nilf),
  (127, Ty.sc D.nilf),
  (128, Ty.sc D.nilf),
  (129, Ty.sc D.nilf),
  (130, Ty.sc D.nilf),
  (131, Ty.st 3 [(0, 3, 26)] [D.int IntKind.i64 0, D.int IntKind.i64 0, D.sl []] false),
  (132, Ty.st 3 [(0, 3, 26)] [D.int IntKind.i64 0, D.int IntKind.i64 0, D.sl []] false),
  (134, Ty.sc D.nilf),
  (135, Ty.sc (D.int IntKind.i64 0)),
  (136, Ty.sc D.nilf),
  (137, Ty.sc D.nilf),
  (138, Ty.sc D.nilf),
  (139, Ty.sc D.nilf),
  (140, Ty.sc D.nilf),
  (142, Ty.sc D.nilf),
  (143, Ty.sc D.nilp),
  (144, Ty.st 6 [(0, 3, 132), (3, 1, 37), (4, 1, 3), (5, 1, 4)] [D.int IntKind.i64 0, D.int IntKind.i64 0, D.sl [], D.sl [], D.int IntKind.i64 0, D.bool false] false),
  (145, Ty.st 6 [(0, 3, 132), (3, 1, 37), (4, 1, 3), (5, 1, 4)] [D.int IntKind.i64 0, D.int IntKind.i64 0, D.sl [], D.sl [], D.int IntKind.i64 0, D.bool false] false),
  (146, Ty.sc D.nilf),
  (147, Ty.mp (D.int IntKind.i64 0) (D.bool false)),
  (149, Ty.sc D.nilf),
  (150, Ty.sc D.nilf),
  (151, Ty.sl 1 (D.sl [])),
  (152, Ty.sc D.nilf),
  (153, Ty.sc D.nilf),
  (154, Ty.ar 32 1 3 [D.int IntKind.i64 0, D.int IntKind.i64 0, D.int IntKind.i64 0, D.int IntKind.i64 0, D.int IntKind.i64 0, D.int IntKind.i64 0, D.int IntKind.i64 0, D.int IntKind.i64 0, D.int IntKind.i64 0, D.int IntKind.i64 0, D.int IntKind.i64 0, D.int IntKind.i64 0, D.int IntKind.i64 0, D.int IntKind.i64 0, D.int IntKind.i64 0, D.int IntKind.i64 0, D.int IntKind.i64 0, D.int IntKind.i64 0, D.int IntKind.i64 0, D.int IntKind.i64 0, D.int IntKind.i64 0, D.int IntKind.i64 0, D.int IntKind.i64 0, D.int IntKind.i64 0, D.int IntKind.i64 0, D.int IntKind.i64 0, D.int IntKind.i64 0, D.int IntKind.i64 0, D.int IntKind.i64 0, D.int IntKind.i64 0, D.int IntKind.i64 0, D.int IntKind.i64 0] false),
  (155, Ty.ar 5 32 154 [D.int IntKind.i64 0, D.int IntKind.i64 0, D.int IntKind.i64 0, D.int IntKind.i64 0, D.int IntKind.i64 0, D.int IntKind.i64 0, D.int IntKind.i64 0, D.int IntKind.i64 0, D.int IntKind.i64 0, D.int IntKind.i64 0, D.int IntKind.i64 0, D.int IntKind.i64 0, D.int IntKind.i64 0, D.int IntKind.i64 0, D.int IntKind.i64 0, D.int IntKind.i64 0, D.int IntKind.i64 0, D.int IntKind.i64 0, D.int IntKind.i64 0, D.int IntKind.i64 0, D.int IntKind.i64 0, D.int IntKind.i64 0, D.int IntKind.i64 0, D.int IntKind.i64 0, D.int IntKind.i64 0, D.int IntKind.i64 0, D.int IntKind.i64 0, D.int IntKind.i64 0, D.int IntKind.i64 0, D.int IntKind.i64 0, D.int IntKind.i64 0, D.int IntKind.i64 0, D.int IntKind.i64 0, D.int IntKind.i64 0, D.int IntKind.i64 0, D.int IntKind.i64 0, D.int IntKind.i64 0, D.int IntKind.i64 0, D.int IntKind.i64 0, D.int IntKind.i64 0, D.int IntKind.i64 0, D.int IntKind.i64 0, D.int IntKind.i64 0, D.int IntKind.i64 0, D.int IntKind.i64 0, D.int IntKind.i64 0, D.int IntKind.i64 0, D.int IntKind.i64 0, D.int IntKind.i64 0, D.int IntKind.i64 0, D.int IntKind.i64 0, D.int IntKind.i64 0, D.int IntKind.i64 0, D.int IntKind.i64 0, D.int IntKind.i64 0, D.int IntKind.i64 0, D.int IntKind.i64 0, D.int IntKind.i64 0, D.int IntKind.i64 0, D.int IntKind.i64 0, D.int IntKind.i64 0, D.int IntKind.i64 0, D.int IntKind.i64 0, D.int IntKind.i64 0, D.int IntKind.i64 0, D.int IntKind.i64 0, D.int IntKind.i64 0, D.int IntKind.i64 0, D.int IntKind.i64 0, D.int IntKind.i64 0, D.int IntKind.i64 0, D.int IntKind.i64 0, D.int IntKind.i64 0, D.int IntKind.i64 0, D.int IntKind.i64 0, D.int IntKind.i64 0, D.int IntKind.i64 0, D.int IntKind.i64 0, D.int IntKind.i64 0, D.int IntKind.i64 0, D.int IntKind.i64 0, D.int IntKind.i64 0, D.int IntKind.i64 0, D.int IntKind.i64 0, D.int IntKind.i64 0, D.int IntKind.i64 0, D.int IntKind.i64 0, D.int IntKind.i64 0, D.int IntKind.i64 0, D.int IntKind.i64 0, D.int IntKind.i64 0, D.int IntKind.i64 0, D.int IntKind.i64 0, D.int IntKind.i64 0, D.int IntKind.i64 0, D.int IntKind.i64 0, D.int IntKind.i64 0, D.int IntKind.i64 0, D.int IntKind.i64 0, D.int IntKind.i64 0, D.int IntKind.i64 0, D.int IntKind.i64 0, D.int IntKind.i64 0, D.int IntKind.i64 0, D.int IntKind.i64 0, D.int IntKind.i64 0, D.int IntKind.i64 0, D.int IntKind.i64 0, D.int IntKind.i64 0, D.int IntKind.i64 0, D.int IntKind.i64 0, D.int IntKind.i64 0, D.int IntKind.i64 0, D.int IntKind.i64 0, D.int IntKind.i64 0, D.int IntKind.i64 0, D.int IntKind.i64 0, D.int IntKind.i64 0, D.int IntKind.i64 0, D.int IntKind.i64 0, D.int IntKind.i64 0, D.int IntKind.i64 0, D.int IntKind.i64 0, D.int IntKind.i64 0, D.int IntKind.i64 0, D.int IntKind.i64 0, D.int IntKind.i64 0, D.int IntKind.i64 0, D.int IntKind.i64 0, D.int IntKind.i64 0, D.int IntKind.i64 0, D.int IntKind.i64 0, D.int IntKind.i64 0, D.int IntKind.i64 0, D.int IntKind.i64 0, D.int IntKind.i64 0, D.int IntKind.i64 0, D.int IntKind.i64 0, D.int IntKind.i64 0, D.int IntKind.i64 0, D.int IntKind.i64 0, D.int IntKind.i64 0, D.int IntKind.i64 0, D.int IntKind.i64 0, D.int IntKind.i64 0, D.int IntKind.i64 0, D.int IntKind.i64 0, D.int IntKind.i64 0, D.int IntKind.i64 0, D.int IntKind.i64 0, D.int IntKind.i64 0, D.int IntKind.i64 0, D.int IntKind.i64 0, D.int IntKind.i64 0, D.int IntKind.i64 0, D.int IntKind.i64 0, D.int IntKind.i64 0, D.int IntKind.i64 0, D.int IntKind.i64 0, D.int IntKind.i64 0] false),
  (156, Ty.ar 5 32 154 [D.int IntKind.i64 0, D.int IntKind.i64 0, D.int IntKind.i64 0, D.int IntKind.i64 0, D.int IntKind.i64 0, D.int IntKind.i64 0, D.int IntKind.i64 0, D.int IntKind.i64 0, D.int IntKind.i64 0, D.int IntKind.i64 0, D.int IntKind.i64 0, D.int IntKind.i64 0, D.int IntKind.i64 0, D.int IntKind.i64 0, D.int IntKind.i64 0, D.int IntKind.i64 0, D.int IntKind.i64 0, D.int IntKind.i64 0, D.int IntKind.i64 0, D.int IntKind.i64 0, D.int IntKind.i64 0, D.int IntKind.i64 0, D.int IntKind.i64 0, D.int IntKind.i64 0, D.int IntKind.i64 0, D.int IntKind.i64 0, D.int IntKind.i64 0, D.int IntKind.i64 0, D.int IntKind.i64 0, D.int IntKind.i64 0, D.int IntKind.i64 0, D.int IntKind.i64 0, D.int IntKind.i64 0, D.int IntKind.i64 0, D.int IntKind.i64 0, D.int IntKind.i64 0, D.int IntKind.i64 0, D.int IntKind.i64 0, D.int IntKind.i64 0, D.int IntKind.i64 0, D.int IntKind.i64 0, D.int IntKind.i64 0, D.int IntKind.i64 0, D.int IntKind.i64 0, D.int IntKind.i64 0, D.int IntKind.i64 0, D.int IntKind.i64 0, D.int IntKind.i64 0, D.int IntKind.i64 0, D.int IntKind.i64 0, D.int IntKind.i64 0, D.int IntKind.i64 0, D.int IntKind.i64 0, D.int IntKind.i64 0, D.int IntKind.i64 0, D.int IntKind.i64 0, D.int IntKind.i64 0, D.int IntKind.i64 0, D.int IntKind.i64 0, D.int IntKind.i64 0, D.int IntKind.i64 0, D.int IntKind.i64 0, D.int IntKind.i64 0, D.int IntKind.i64 0, D.int IntKind.i64 0, D.int IntKind.i64 0, D.int IntKind.i64 0, D.int IntKind.i64 0, D.int IntKind.i64 0, D.int IntKind.i64 0, D.int IntKind.i64 0, D.int IntKind.i64 0, D.int IntKind.i64 0, D.int IntKind.i64 0, D.int IntKind.i64 0, D.int IntKind.i64 0, D.int IntKind.i64 0, D.int IntKind.i64 0, D.int IntKind.i64 0, D.int IntKind.i64 0, D.int IntKind.i64 0, D.int IntKind.i64 0, D.int IntKind.i64 0, D.int IntKind.i64 0, D.int IntKind.i64 0, D.int IntKind.i64 0, D.int IntKind.i64 0, D.int IntKind.i64 0, D.int IntKind.i64 0, D.int IntKind.i64 0, D.int IntKind.i64 0, D.int IntKind.i64 0, D.int IntKind.i64 0, D.int IntKind.i64 0, D.int IntKind.i64 0, D.int IntKind.i64 0, D.int IntKind.i64 0, D.int IntKind.i64 0, D.int IntKind.i64 0, D.int IntKind.i64 0, D.int IntKind.i64 0, D.int IntKind.i64 0, D.int IntKind.i64 0, D.int IntKind.i64 0, D.int IntKind.i64 0, D.int IntKind.i64 0, D.int IntKind.i64 0, D.int IntKind.i64 0, D.int IntKind.i64 0, D.int IntKind.i64 0, D.int IntKind.i64 0, D.int IntKind.i64 0, D.int IntKind.i64 0, D.int IntKind.i64 0, D.int IntKind.i64 0, D.int IntKind.i64 0, D.int IntKind.i64 0, D.int IntKind.i64 0, D.int IntKind.i64 0, D.int IntKind.i64 0, D.int IntKind.i64 0, D.int IntKind.i64 0, D.int IntKind.i64 0, D.int IntKind.i64 0, D.int IntKind.i64 0, D.int IntKind.i64 0, D.int IntKind.i64 0, D.int IntKind.i64 0, D.int IntKind.i64 0, D.int IntKind.i64 0, D.int IntKind.i64 0, D.int IntKind.i64 0, D.int IntKind.i64 0, D.int IntKind.i64 0, D.int IntKind.i64 0, D.int IntKind.i64 0, D.int IntKind.i64 0, D.int IntKind.i64 0, D.int IntKind.i64 0, D.int IntKind.i64 0, D.int IntKind.i64 0, D.int IntKind.i64 0, D.int IntKind.i64 0, D.int IntKind.i64 0, D.int IntKind.i64 0, D.int IntKind.i64 0, D.int IntKind.i64 0, D.int IntKind.i64 0, D.int IntKind.i64 0, D.int IntKind.i64 0, D.int IntKind.i64 0, D.int IntKind.i64 0, D.int IntKind.i64 0, D.int IntKind.i64 0, D.int IntKind.i64 0, D.int IntKind.i64 0, D.int IntKind.i64 0, D.int IntKind.i64 0, D.int IntKind.i64 0, D.int IntKind.i64 0] false),
  (157, Ty.ar 32 1 4 [D.bool false, D.bool false, D.bool false, D.bool false, D.bool false, D.bool false, D.bool false, D.bool false, D.bool false, D.bool false, D.bool false, D.bool false, D.bool false, D.bool false, D.bool false, D.bool false, D.bool false, D.bool false, D.bool false, D.bool false, D.bool false, D.bool false, D.bool false, D.bool false, D.bool false, D.bool false, D.bool false, D.bool false, D.bool false, D.bool false, D.bool false, D.bool false] false),
  (158, Ty.sc (D.int IntKind.u64 0)),
  (159, Ty.sc D.nilf),
  (160, Ty.sl 1 (D.sl [])),
  (161, Ty.sc D.nilf),
  (162, Ty.st 3 [(0, 1, 3), (1, 1, 3), (2, 1, 3)] [D.int IntKind.i64 0, D.int IntKind.i64 0, D.int IntKind.i64 0] true),
  (163, Ty.st 3 [(0, 1, 3), (1, 1, 3), (2, 1, 3)] [D.int IntKind.i64 0, D.int IntKind.i64 0, D.int IntKind.i64 0] true),
  (165, Ty.sc D.nilf),
  (166, Ty.sc D.nilf),
  (167, Ty.st 5 [(0, 3, 132), (3, 1, 81), (4, 1, 3)] [D.int IntKind.i64 0, D.int IntKind.i64 0, D.sl [], D.sl [], D.int IntKind.i64 0] false),
  (168, Ty.st 5 [(0, 3, 132), (3, 1, 81), (4, 1, 3)] [D.int IntKind.i64 0, D.int IntKind.i64 0, D.sl [], D.sl [], D.int IntKind.i64 0] false),
  (170, Ty.sc D.nilf),
  (171, Ty.sc D.nilf),
  (172, Ty.sc D.nilf),
  (173, Ty.sc D.nilf),
  (174, Ty.sc D.nilf),
  (175, Ty.sc D.nilf),
  (176, Ty.sc D.nilf),
  (178, Ty.sc D.nilf),
  (179, Ty.sc D.nilf),
  (180, Ty.sc D.nilf),
  (181, Ty.sc D.nilf),
  (182, Ty.ar 5 1 4 [D.bool false, D.bool false, D.bool false, D.bool false, D.bool false] false),
  (183, Ty.sc D.nilf),
  (184, Ty.sc D.nilf),
  (185, Ty.sc D.nilf),
  (186, Ty.mp (D.int IntKind.i64 0) (D.bool false)),
  (187, Ty.sc D.nilf),
  (188, Ty.sc D.nilf),
  (189, Ty.sc D.nilf),
  (190, Ty.sc D.nilf),
  (191, Ty.sc D.nilf),
  (192, Ty.sc D.nilf),
  (193, Ty.sc D.nilf),
  (194, Ty.sc D.nilf),
  (195, Ty.sc D.nilf),
  (196, Ty.sc D.nilf),
  (197, Ty.sc D.nilf),
  (198, Ty.sc D.nilf),
  (199, Ty.sc D.nilp),
  (200, Ty.sc D.nilf),
  (201, Ty.sc (D.int IntKind.i64 0)),
  (203, Ty.sc D.nilf),
  (204, Ty.sc D.nilf),
  (205, Ty.sc D.nilf),
  (206, Ty.sc D.nilf),
  (208, Ty.sc D.nilf),
  (209, Ty.sc D.nilf),
  (210, Ty.sc (D.int IntKind.u32 0)),
  (211, Ty.sc D.nilf),
  (212, Ty.sc (D.int IntKind.u64 0)),
  (213, Ty.sc (D.int IntKind.u64 0)),
  (214, Ty.sc D.nilf),
  (215, Ty.sc D.nilf),
  (216, Ty.sc D.nilf),
  (217, Ty.sc D.nilp),
  (218, Ty.sc D.nilf),
  (219, Ty.sc D.nilf),
  (220, Ty.sc D.nilp),
  (222, Ty.sc D.nilf),
  (223, Ty.sc D.nilf),
  (224, Ty.st 4 [(0, 1, 17), (1, 1, 17), (2, 1, 17), (3, 1, 9)] [D.nilp, D.nilp, D.nilp, D.str ⟨#[]⟩] false),
  (225, Ty.st 4 [(0, 1, 17), (1, 1, 17), (2, 1, 17), (3, 1, 9)] [D.nilp, D.nilp, D.nilp, D.str ⟨#[]⟩] false),
  (226, Ty.ar 0 1 16 [] false),
  (229, Ty.sc D.nilf),
  (230, Ty.sc (D.int IntKind.u8 0)),
  (231, Ty.sc (D.int IntKind.u8 0)),
  (232, Ty.sc D.nilf),
  (233, Ty.sc D.nilp),
  (234, Ty.sc (D.int IntKind.i32 0)),
  (235, Ty.sc (D.int IntKind.i32 0)),
  (236, Ty.st 11 [(0, 1, 12), (1, 1, 12), (2, 1, 210), (3, 1, 230), (4, 1, 5), (5, 1, 5), (6, 1, 231), (7, 1, 232), (8, 1, 233), (9, 1, 234), (10, 1, 235)] [D.int IntKind.u64 0, D.int IntKind.u64 0, D.int IntKind.u32 0, D.int IntKind.u8 0, D.int IntKind.u8 0, D.int IntKind.u8 0, D.int IntKind.u8 0, D.nilf, D.nilp, D.int IntKind.i32 0, D.int IntKind.i32 0] false),
  (237, Ty.st 11 [(0, 1, 12), (1, 1, 12), (2, 1, 210), (3, 1, 230), (4, 1, 5), (5, 1, 5), (6, 1, 231), (7, 1, 232), (8, 1, 233), (9, 1, 234), (10, 1, 235)] [D.int IntKind.u64 0, D.int IntKind.u64 0, D.int IntKind.u32 0, D.int IntKind.u8 0, D.int IntKind.u8 0, D.int IntKind.u8 0, D.int IntKind.u8 0, D.nilf, D.nilp, D.int IntKind.i32 0, D.int IntKind.i32 0] false)]

def Tt : Nat → Ty := tlook ttab

theorem tt_ok : TOK Go.Proofs.Try.prog Tt :=
  tlook_ok ttab ⟨by kernel_rfl, by kernel_rfl, by kernel_rfl, by kernel_rfl, by kernel_rfl, by kernel_rfl, by kernel_rfl, by kernel_rfl, by kernel_rfl, by kernel_rfl, by kernel_rfl, by kernel_rfl, by kernel_rfl, by kernel_rfl, by kernel_rfl, by kernel_rfl, by kernel_rfl, by kernel_rfl, by kernel_rfl, by kernel_rfl, by kernel_rfl, by kernel_rfl, by kernel_rfl, by kernel_rfl, by kernel_rfl, by kernel_rfl, by kernel_rfl, by kernel_rfl, by kernel_rfl, by kernel_rfl, by kernel_rfl, by kernel_rfl, by kernel_rfl, by kernel_rfl, by kernel_rfl, by kernel_rfl, by kernel_rfl, by kernel_rfl, by kernel_rfl, by kernel_rfl, by kernel_rfl, by kernel_rfl, by kernel_rfl, by kernel_rfl, by kernel_rfl, by kernel_rfl, by kernel_rfl, by kernel_rfl, by kernel_rfl, by kernel_rfl, by kernel_rfl, by kernel_rfl, by kernel_rfl, by kernel_rfl, by kernel_rfl, by kernel_rfl, by kernel_rfl, by kernel_rfl, by kernel_rfl, by kernel_rfl, by kernel_rfl, by kernel_rfl, by kernel_rfl, by kernel_rfl, by kernel_rfl, by kernel_rfl, by kernel_rfl, by kernel_rfl, by kernel_rfl, by kernel_rfl, by kernel_rfl, by kernel_rfl, by kernel_rfl, by kernel_rfl, by kernel_rfl, by kernel_rfl, by kernel_rfl, by kernel_rfl, by kernel_rfl, by kernel_rfl, by kernel_rfl, by kernel_rfl, by kernel_rfl, by kernel_rfl, by kernel_rfl, by kernel_rfl, by kernel_rfl, by kernel_rfl, by kernel_rfl, by kernel_rfl, by kernel_rfl, by kernel_rfl, by kernel_rfl, by kernel_rfl, by kernel_rfl, by kernel_rfl, by kernel_rfl, by kernel_rfl, by kernel_rfl, by kernel_rfl, by kernel_rfl, by kernel_rfl, by kernel_rfl, by kernel_rfl, by kernel_rfl, by kernel_rfl, by kernel_rfl, by kernel_rfl, by kernel_rfl, by kernel_rfl, by kernel_rfl, by kernel_rfl, by kernel_rfl, by kernel_rfl, by kernel_rfl, by kernel_rfl, by kernel_rfl, by kernel_rfl, by kernel_rfl, by kernel_rfl, by kernel_rfl, by kernel_rfl, by kernel_rfl, by kernel_rfl, by kernel_rfl, by kernel_rfl, by kernel_rfl, by kernel_rfl, by kernel_rfl, by kernel_rfl, by kernel_rfl, by kernel_rfl, by kernel_rfl, by kernel_rfl, by kernel_rfl, by kernel_rfl, by kernel_rfl, by kernel_rfl, by kernel_rfl, by kernel_rfl, by kernel_rfl, by kernel_rfl, by kernel_rfl, by kernel_rfl, by kernel_rfl, by kernel_rfl, by kernel_rfl, by kernel_rfl, by kernel_rfl, by kernel_rfl, by kernel_rfl, by kernel_rfl, by kernel_rfl, by kernel_rfl, by kernel_rfl, by kernel_rfl, by kernel_rfl, by kernel_rfl, by kernel_rfl, by kernel_rfl, by kernel_rfl, by kernel_rfl, by kernel_rfl, by kernel_rfl, by kernel_rfl, by kernel_rfl, by kernel_rfl, by kernel_rfl, by kernel_rfl, by kernel_rfl, by kernel_rfl, by kernel_rfl, by kernel_rfl, by kernel_rfl, by kernel_rfl, by kernel_rfl, by kernel_rfl, by kernel_rfl, by kernel_rfl, by kernel_rfl, by kernel_rfl, by kernel_rfl, by kernel_rfl, by kernel_rfl, by kernel_rfl, by kernel_rfl, by kernel_rfl, by kernel_rfl, by kernel_rfl, by kernel_rfl, by kernel_rfl, by kernel_rfl, by kernel_rfl, by kernel_rfl, by kernel_rfl, by kernel_rfl, by kernel_rfl, by kernel_rfl, by kernel_rfl, by kernel_rfl, by kernel_rfl, by kernel_rfl, by kernel_rfl, by kernel_rfl, by kernel_rfl, by kernel_rfl, by kernel_rfl, by kernel_rfl, by kernel_rfl, by kernel_rfl, by kernel_rfl, by kernel_rfl, by kernel_rfl, by kernel_rfl, trivial⟩

@[go_sem] theorem tt_1 : Tt 1 = Ty.sc D.nilf := (Eq.refl _).trans rfl
@[go_sem] theorem tt_2 : Tt 2 = Ty.sc (D.int IntKind.i64 0) := (Eq.refl _).trans rfl
@[go_sem] theorem tt_3 : Tt 3 = Ty.sc (D.int IntKind.i64 0) := (Eq.refl _).trans rfl
@[go_sem] theorem tt_4 : Tt 4 = Ty.sc (D.bool false) := (Eq.refl _).trans rfl
@[go_sem] theorem tt_5 : Tt 5 = Ty.sc (D.int IntKind.u8 0) := (Eq.refl _).trans rfl
@[go_sem] theorem tt_6 : Tt 6 = Ty.sc (D.int IntKind.u8 0) := (Eq.refl _).trans rfl
@[go_sem] theorem tt_7 : Tt 7 = Ty.st 4 [(0, 1, 2), (1, 1, 3), (2, 1, 4), (3, 1, 6)] [D.int IntKind.i64 0, D.int IntKind.i64 0, D.bool false, D.int IntKind.u8 0] true := (Eq.refl _).trans rfl
@[go_sem] theorem tt_8 : Tt 8 = Ty.st 4 [(0, 1, 2), (1, 1, 3), (2, 1, 4), (3, 1, 6)] [D.int IntKind.i64 0, D.int IntKind.i64 0, D.bool false, D.int IntKind.u8 0] true := (Eq.refl _).trans rfl
@[go_sem] theorem tt_9 : Tt 9 = Ty.sc (D.str ⟨#[]⟩) := (Eq.refl _).trans rfl
@[go_sem] theorem tt_10 : Tt 10 = Ty.sc (D.str ⟨#[]⟩) := (Eq.refl _).trans rfl
@[go_sem] theorem tt_11 : Tt 11 = Ty.sc (D.str ⟨#[]⟩) := (Eq.refl _).trans rfl
@[go_sem] theorem tt_12 : Tt 12 = Ty.sc (D.int IntKind.u64 0) := (Eq.refl _).trans rfl
@[go_sem] theorem tt_13 : Tt 13 = Ty.st 2 [(0, 1, 9), (1, 1, 12)] [D.str ⟨#[]⟩, D.int IntKind.u64 0] false := (Eq.refl _).trans rfl
@[go_sem] theorem tt_14 : Tt 14 = Ty.st 2 [(0, 1, 9), (1, 1, 12)] [D.str ⟨#[]⟩, D.int IntKind.u64 0] false := (Eq.refl _).trans rfl
@[go_sem] theorem tt_15 : Tt 15 = Ty.sc D.nilp := (Eq.refl _).trans rfl
@[go_sem] theorem tt_16 : Tt 16 = Ty.sc D.nilp := (Eq.refl _).trans rfl
@[go_sem] theorem tt_17 : Tt 17 = Ty.sc D.nilp := (Eq.refl _).trans rfl
@[go_sem] theorem tt_18 : Tt 18 = Ty.st 1 [(0, 1, 17)] [D.nilp] false := (Eq.refl _).trans rfl
@[go_sem] theorem tt_19 : Tt 19 = Ty.st 1 [(0, 1, 17)] [D.nilp] false := (Eq.refl _).trans rfl
@[go_sem] theorem tt_21 : Tt 21 = Ty.sc (D.int IntKind.i32 0) := (Eq.refl _).trans rfl
@[go_sem] theorem tt_22 : Tt 22 = Ty.st 2 [(0, 1, 3), (1, 1, 3)] [D.int IntKind.i64 0, D.int IntKind.i64 0] true := (Eq.refl _).trans rfl
@[go_sem] theorem tt_23 : Tt 23 = Ty.st 2 [(0, 1, 3), (1, 1, 3)] [D.int IntKind.i64 0, D.int IntKind.i64 0] true := (Eq.refl _).trans rfl
@[go_sem] theorem tt_24 : Tt 24 = Ty.sl 4 (D.agg [D.int IntKind.i64 0, D.int IntKind.i64 0, D.int IntKind.i64 0, D.int IntKind.i64 0]) := (Eq.refl _).trans rfl
@[go_sem] theorem tt_25 : Tt 25 = Ty.st 3 [(0, 2, 23), (2, 1, 24)] [D.int IntKind.i64 0, D.int IntKind.i64 0, D.sl []] false := (Eq.refl _).trans rfl
@[go_sem] theorem tt_26 : Tt 26 = Ty.st 3 [(0, 2, 23), (2, 1, 24)] [D.int IntKind.i64 0, D.int IntKind.i64 0, D.sl []] false := (Eq.refl _).trans rfl
@[go_sem] theorem tt_27 : Tt 27 = Ty.sl 1 (D.int IntKind.i64 0) := (Eq.refl _).trans rfl
@[go_sem] theorem tt_28 : Tt 28 = Ty.sc D.nilf := (Eq.refl _).trans rfl
@[go_sem] theorem tt_29 : Tt 29 = Ty.sc D.nilf := (Eq.refl _).trans rfl
@[go_sem] theorem tt_30 : Tt 30 = Ty.sc (D.int IntKind.i64 0) := (Eq.refl _).trans rfl
@[go_sem] theorem tt_31 : Tt 31 = Ty.sc D.nilf := (Eq.refl _).trans rfl
@[go_sem] theorem tt_32 : Tt 32 = Ty.sl 2 (D.agg [D.int IntKind.i64 0, D.int IntKind.i64 0]) := (Eq.refl _).trans rfl
@[go_sem] theorem tt_34 : Tt 34 = Ty.sc D.nilf := (Eq.refl _).trans rfl
@[go_sem] theorem tt_35 : Tt 35 = Ty.sc D.nilf := (Eq.refl _).trans rfl
@[go_sem] theorem tt_36 : Tt 36 = Ty.sc D.nilf := (Eq.refl _).trans rfl
@[go_sem] theorem tt_37 : Tt 37 = Ty.sl 2 (D.agg [D.int IntKind.i64 0, D.int IntKind.i64 0]) := (Eq.refl _).trans rfl
@[go_sem] theorem tt_38 : Tt 38 = Ty.st 2 [(0, 1, 3), (1, 1, 3)] [D.int IntKind.i64 0, D.int IntKind.i64 0] true := (Eq.refl _).trans rfl
@[go_sem] theorem tt_39 : Tt 39 = Ty.st 2 [(0, 1, 3), (1, 1, 3)] [D.int IntKind.i64 0, D.int IntKind.i64 0] true := (Eq.refl _).trans rfl
@[go_sem] theorem tt_40 : Tt 40 = Ty.sc D.nilf := (Eq.refl _).trans rfl
@[go_sem] theorem tt_41 : Tt 41 = Ty.sc D.nilf := (Eq.refl _).trans rfl
@[go_sem] theorem tt_42 : Tt 42 = Ty.sc D.nilf := (Eq.refl _).trans rfl
@[go_sem] theorem tt_43 : Tt 43 = Ty.sc D.nilf := (Eq.refl _).trans rfl
@[go_sem] theorem tt_44 : Tt 44 = Ty.sc D.nilf := (Eq.refl _).trans rfl
@[go_sem] theorem tt_45 : Tt 45 = Ty.sl 1 (D.sl []) := (Eq.refl _).trans rfl
@[go_sem] theorem tt_47 : Tt 47 = Ty.sc D.nilf := (Eq.refl _).trans rfl
@[go_sem] theorem tt_48 : Tt 48 = Ty.sc D.nilf := (Eq.refl _).trans rfl
@[go_sem] theorem tt_49 : Tt 49 = Ty.sc D.nilf := (Eq.refl _).trans rfl
@[go_sem] theorem tt_50 : Tt 50 = Ty.sl 1 (D.int IntKind.i64 0) := (Eq.refl _).trans rfl
@[go_sem] theorem tt_51 : Tt 51 = Ty.sc D.nilf := (Eq.refl _).trans rfl
@[go_sem] theorem tt_52 : Tt 52 = Ty.sc D.nilf := (Eq.refl _).trans rfl
@[go_sem] theorem tt_54 : Tt 54 = Ty.sc D.nilf := (Eq.refl _).trans rfl
@[go_sem] theorem tt_55 : Tt 55 = Ty.sc D.nilf := (Eq.refl _).trans rfl
@[go_sem] theorem tt_56 : Tt 56 = Ty.sc D.nilf := (Eq.refl _).trans rfl
@[go_sem] theorem tt_57 : Tt 57 = Ty.sc D.nilf := (Eq.refl _).trans rfl
@[go_sem] theorem tt_58 : Tt 58 = Ty.sc D.nilf := (Eq.refl _).trans rfl
@[go_sem] theorem tt_60 : Tt 60 = Ty.sc D.nilf := (Eq.refl _).trans rfl
@[go_sem] theorem tt_62 : Tt 62 = Ty.sc D.nilf := (Eq.refl _).trans rfl
@[go_sem] theorem tt_64 : Tt 64 = Ty.sc D.nilf := (Eq.refl _).trans rfl
@[go_sem] theorem tt_65 : Tt 65 = Ty.sc D.nilp := (Eq.refl _).trans rfl
@[go_sem] theorem tt_66 : Tt 66 = Ty.sc D.nilf := (Eq.refl _).trans rfl
@[go_sem] theorem tt_67 : Tt 67 = Ty.sc D.nilf := (Eq.refl _).trans rfl
@[go_sem] theorem tt_69 : Tt 69 = Ty.sc D.nilf := (Eq.refl _).trans rfl
@[go_sem] theorem tt_70 : Tt 70 = Ty.sc D.nilf := (Eq.refl _).trans rfl
@[go_sem] theorem tt_71 : Tt 71 = Ty.sl 3 (D.agg [D.int IntKind.i64 0, D.int IntKind.i64 0, D.int IntKind.i64 0]) := (Eq.refl _).trans rfl
@[go_sem] theorem tt_72 : Tt 72 = Ty.sc D.nilf := (Eq.refl _).trans rfl
@[go_sem] theorem tt_73 : Tt 73 = Ty.sc D.nilf := (Eq.refl _).trans rfl
@[go_sem] theorem tt_74 : Tt 74 = Ty.st 3 [(0, 2, 23), (2, 1, 3)] [D.int IntKind.i64 0, D.int IntKind.i64 0, D.int IntKind.i64 0] true := (Eq.refl _).trans rfl
@[go_sem] theorem tt_75 : Tt 75 = Ty.st 3 [(0, 2, 23), (2, 1, 3)] [D.int IntKind.i64 0, D.int IntKind.i64 0, D.int IntKind.i64 0] true := (Eq.refl _).trans rfl
@[go_sem] theorem tt_76 : Tt 76 = Ty.sc D.nilf := (Eq.refl _).trans rfl
@[go_sem] theorem tt_77 : Tt 77 = Ty.sc D.nilf := (Eq.refl _).trans rfl
@[go_sem] theorem tt_78 : Tt 78 = Ty.sc D.nilf := (Eq.refl _).trans rfl
@[go_sem] theorem tt_79 : Tt 79 = Ty.sc D.nilf := (Eq.refl _).trans rfl
@[go_sem] theorem tt_80 : Tt 80 = Ty.sc D.nilf := (Eq.refl _).trans rfl
@[go_sem] theorem tt_81 : Tt 81 = Ty.sl 3 (D.agg [D.int IntKind.i64 0, D.int IntKind.i64 0, D.int IntKind.i64 0]) := (Eq.refl _).trans rfl
@[go_sem] theorem tt_83 : Tt 83 = Ty.sc D.nilf := (Eq.refl _).trans rfl
@[go_sem] theorem tt_84 : Tt 84 = Ty.sc D.nilf := (Eq.refl _).trans rfl
@[go_sem] theorem tt_85 : Tt 85 = Ty.sc (D.int IntKind.i64 0) := (Eq.refl _).trans rfl
@[go_sem] theorem tt_86 : Tt 86 = Ty.st 3 [(0, 2, 39), (2, 1, 85)] [D.int IntKind.i64 0, D.int IntKind.i64 0, D.int IntKind.i64 0] true := (Eq.refl _).trans rfl
@[go_sem] theorem tt_87 : Tt 87 = Ty.st 3 [(0, 2, 39), (2, 1, 85)] [D.int IntKind.i64 0, D.int IntKind.i64 0, D.int IntKind.i64 0] true := (Eq.refl _).trans rfl
@[go_sem] theorem tt_88 : Tt 88 = Ty.sc D.nilf := (Eq.refl _).trans rfl
@[go_sem] theorem tt_90 : Tt 90 = Ty.sc D.nilf := (Eq.refl _).trans rfl
@[go_sem] theorem tt_91 : Tt 91 = Ty.sc D.nilf := (Eq.refl _).trans rfl
@[go_sem] theorem tt_92 : Tt 92 = Ty.sc D.nilf := (Eq.refl _).trans rfl
@[go_sem] theorem tt_93 : Tt 93 = Ty.sc D.nilf := (Eq.refl _).trans rfl
@[go_sem] theorem tt_94 : Tt 94 = Ty.sc D.nilf := (Eq.refl _).trans rfl
@[go_sem] theorem tt_95 : Tt 95 = Ty.sc D.nilf := (Eq.refl _).trans rfl
@[go_sem] theorem tt_96 : Tt 96 = Ty.sc D.nilf := (Eq.refl _).trans rfl
@[go_sem] theorem tt_97 : Tt 97 = Ty.ar 3 1 5 [D.int IntKind.u8 0, D.int IntKind.u8 0, D.int IntKind.u8 0] false := (Eq.refl _).trans rfl
@[go_sem] theorem tt_98 : Tt 98 = Ty.sl 4 (D.agg [D.int IntKind.u8 0, D.int IntKind.u8 0, D.int IntKind.u8 0, D.int IntKind.u8 0]) := (Eq.refl _).trans rfl
@[go_sem] theorem tt_99 : Tt 99 = Ty.st 4 [(0, 3, 97), (3, 1, 98)] [D.int IntKind.u8 0, D.int IntKind.u8 0, D.int IntKind.u8 0, D.sl []] false := (Eq.refl _).trans rfl
@[go_sem] theorem tt_100 : Tt 100 = Ty.st 4 [(0, 3, 97), (3, 1, 98)] [D.int IntKind.u8 0, D.int IntKind.u8 0, D.int IntKind.u8 0, D.sl []] false := (Eq.refl _).trans rfl
@[go_sem] theorem tt_101 : Tt 101 = Ty.sl 2 (D.agg [D.int IntKind.u8 0, D.int IntKind.u8 0]) := (Eq.refl _).trans rfl
@[go_sem] theorem tt_103 : Tt 103 = Ty.sc D.nilf := (Eq.refl _).trans rfl
@[go_sem] theorem tt_104 : Tt 104 = Ty.sc D.nilf := (Eq.refl _).trans rfl
@[go_sem] theorem tt_106 : Tt 106 = Ty.sc D.nilf := (Eq.refl _).trans rfl
@[go_sem] theorem tt_107 : Tt 107 = Ty.sc D.nilf := (Eq.refl _).trans rfl
@[go_sem] theorem tt_108 : Tt 108 = Ty.sc D.nilf := (Eq.refl _).trans rfl
@[go_sem] theorem tt_109 : Tt 109 = Ty.sc D.nilf := (Eq.refl _).trans rfl
@[go_sem] theorem tt_110 : Tt 110 = Ty.sc D.nilf := (Eq.refl _).trans rfl
@[go_sem] theorem tt_111 : Tt 111 = Ty.sc D.nilf := (Eq.refl _).trans rfl
@[go_sem] theorem tt_112 : Tt 112 = Ty.sc D.nilf := (Eq.refl _).trans rfl
@[go_sem] theorem tt_113 : Tt 113 = Ty.ar 4 1 4 [D.bool false, D.bool false, D.bool false, D.bool false] false := (Eq.refl _).trans rfl
@[go_sem] theorem tt_114 : Tt 114 = Ty.ar 4 1 5 [D.int IntKind.u8 0, D.int IntKind.u8 0, D.int IntKind.u8 0, D.int IntKind.u8 0] false := (Eq.refl _).trans rfl
@[go_sem] theorem tt_115 : Tt 115 = Ty.sc D.nilf := (Eq.refl _).trans rfl
@[go_sem] theorem tt_116 : Tt 116 = Ty.st 4 [(0, 2, 23), (2, 1, 3), (3, 1, 3)] [D.int IntKind.i64 0, D.int IntKind.i64 0, D.int IntKind.i64 0, D.int IntKind.i64 0] true := (Eq.refl _).trans rfl
@[go_sem] theorem tt_117 : Tt 117 = Ty.st 4 [(0, 2, 23), (2, 1, 3), (3, 1, 3)] [D.int IntKind.i64 0, D.int IntKind.i64 0, D.int IntKind.i64 0, D.int IntKind.i64 0] true := (Eq.refl _).trans rfl
@[go_sem] theorem tt_118 : Tt 118 = Ty.sc D.nilf := (Eq.refl _).trans rfl
@[go_sem] theorem tt_119 : Tt 119 = Ty.ar 2 1 5 [D.int IntKind.u8 0, D.int IntKind.u8 0] false := (Eq.refl _).trans rfl
@[go_sem] theorem tt_120 : Tt 120 = Ty.sc D.nilf := (Eq.refl _).trans rfl
@[go_sem] theorem tt_121 : Tt 121 = Ty.sc D.nilf := (Eq.refl _).trans rfl
@[go_sem] theorem tt_122 : Tt 122 = Ty.sc D.nilf := (Eq.refl _).trans rfl
@[go_sem] theorem tt_123 : Tt 123 = Ty.sc D.nilf := (Eq.refl _).trans rfl
@[go_sem] theorem tt_124 : Tt 124 = Ty.sl 3 (D.agg [D.int IntKind.u8 0, D.int IntKind.u8 0, D.int IntKind.u8 0]) := (Eq.refl _).trans rfl
@[go_sem] theorem tt_125 : Tt 125 = Ty.sc D.nilf := (Eq.refl _).trans rfl
@[go_sem] theorem tt_126 : Tt 126 = Ty.sc D.nilf := (Eq.refl _).trans rfl
@[go_sem] theorem tt_127 : Tt 127 = Ty.sc D.nilf := (Eq.refl _).trans rfl
@[go_sem] theorem tt_128 : Tt 128 = Ty.sc D.nilf := (Eq.refl _).trans rfl
@[go_sem] theorem tt_129 : Tt 129 = Ty.sc D.nilf := (Eq.refl _).trans rfl
@[go_sem] theorem tt_130 : Tt 130 = Ty.sc D.nilf := (Eq.refl _).trans rfl
@[go_sem] theorem tt_131 : Tt 131 = Ty.st 3 [(0, 3, 26)] [D.int IntKind.i64 0, D.int IntKind.i64 0, D.sl []] false := (Eq.refl _).trans rfl
@[go_sem] theorem tt_132 : Tt 132 = Ty.st 3 [(0, 3, 26)] [D.int IntKind.i64 0, D.int IntKind.i64 0, D.sl []] false := (Eq.refl _).trans rfl
@[go_sem] theorem tt_134 : Tt 134 = Ty.sc D.nilf := (Eq.refl _).trans rfl
@[go_sem] theorem tt_135 : Tt 135 = Ty.sc (D.int IntKind.i64 0) := (Eq.refl _).trans rfl
@[go_sem] theorem tt_136 : Tt 136 = Ty.sc D.nilf := (Eq.refl _).trans rfl
@[go_sem] theorem tt_137 : Tt 137 = Ty.sc D.nilf := (Eq.refl _).trans rfl
@[go_sem] theorem tt_138 : Tt 138 = Ty.sc D.nilf := (Eq.refl _).trans rfl
@[go_sem] theorem tt_139 : Tt 139 = Ty.sc D.nilf := (Eq.refl _).trans rfl
@[go_sem] theorem tt_140 : Tt 140 = Ty.sc D.nilf := (Eq.refl _).trans rfl
@[go_sem] theorem tt_142 : Tt 142 = Ty.sc D.nilf := (Eq.refl _).trans rfl
@[go_sem] theorem tt_143 : Tt 143 = Ty.sc D.nilp := (Eq.refl _).trans rfl
@[go_sem] theorem tt_144 : Tt 144 = Ty.st 6 [(0, 3, 132), (3, 1, 37), (4, 1, 3), (5, 1, 4)] [D.int IntKind.i64 0, D.int IntKind.i64 0, D.sl [], D.sl [], D.int IntKind.i64 0, D.bool false] false := (Eq.refl _).trans rfl
@[go_sem] theorem tt_145 : Tt 145 = Ty.st 6 [(0, 3, 132), (3, 1, 37), (4, 1, 3), (5, 1, 4)] [D.int IntKind.i64 0, D.int IntKind.i64 0, D.sl [], D.sl [], D.int IntKind.i64 0, D.bool false] false := (Eq.refl _).trans rfl
@[go_sem] theorem tt_146 : Tt 146 = Ty.sc D.nilf := (Eq.refl _).trans rfl
@[go_sem] theorem tt_147 : Tt 147 = Ty.mp (D.int IntKind.i64 0) (D.bool false) := (Eq.refl _).trans rfl
@[go_sem] theorem tt_149 : Tt 149 = Ty.sc D.nilf := (Eq.refl _).trans rfl
@[go_sem] theorem tt_150 : Tt 150 = Ty.sc D.nilf := (Eq.refl _).trans rfl
@[go_sem] theorem tt_151 : Tt 151 = Ty.sl 1 (D.sl []) := (Eq.refl _).trans rfl
@[go_sem] theorem tt_152 : Tt 152 = Ty.sc D.nilf := (Eq.refl _).trans rfl
@[go_sem] theorem tt_153 : Tt 153 = Ty.sc D.nilf := (Eq.refl _).trans rfl
@[go_sem] theorem tt_154 : Tt 154 = Ty.ar 32 1 3 [D.int IntKind.i64 0, D.int IntKind.i64 0, D.int IntKind.i64 0, D.int IntKind.i64 0, D.int IntKind.i64 0, D.int IntKind.i64 0, D.int IntKind.i64 0, D.int IntKind.i64 0, D.int IntKind.i64 0, D.int IntKind.i64 0, D.int IntKind.i64 0, D.int IntKind.i64 0, D.int IntKind.i64 0, D.int IntKind.i64 0, D.int IntKind.i64 0, D.int IntKind.i64 0, D.int IntKind.i64 0, D.int IntKind.i64 0, D.int IntKind.i64 0, D.int IntKind.i64 0, D.int IntKind.i64 0, D.int IntKind.i64 0, D.int IntKind.i64 0, D.int IntKind.i64 0, D.int IntKind.i64 0, D.int IntKind.i64 0, D.int IntKind.i64 0, D.int IntKind.i64 0, D.int IntKind.i64 0, D.int IntKind.i64 0, D.int IntKind.i64 0, D.int IntKind.i64 0] false := (Eq.refl _).trans rfl
@[go_sem] theorem tt_155 : Tt 155 = Ty.ar 5 32 154 [D.int IntKind.i64 0, D.int IntKind.i64 0, D.int IntKind.i64 0, D.int IntKind.i64 0, D.int IntKind.i64 0, D.int IntKind.i64 0, D.int IntKind.i64 0, D.int IntKind.i64 0, D.int IntKind.i64 0, D.int IntKind.i64 0, D.int IntKind.i64 0, D.int IntKind.i64 0, D.int IntKind.i64 0, D.int IntKind.i64 0, D.int IntKind.i64 0, D.int IntKind.i64 0, D.int IntKind.i64 0, D.int IntKind.i64 0, D.int IntKind.i64 0, D.int IntKind.i64 0, D.int IntKind.i64 0, D.int IntKind.i64 0, D.int IntKind.i64 0, D.int IntKind.i64 0, D.int IntKind.i64 0, D.int IntKind.i64 0, D.int IntKind.i64 0, D.int IntKind.i64 0, D.int IntKind.i64 0, D.int IntKind.i64 0, D.int IntKind.i64 0, D.int IntKind.i64 0, D.int IntKind.i64 0, D.int IntKind.i64 0, D.int IntKind.i64 0, D.int IntKind.i64 0, D.int IntKind.i64 0, D.int IntKind.i64 0, D.int IntKind.i64 0, D.int IntKind.i64 0, D.int IntKind.i64 0, D.int IntKind.i64 0, D.int IntKind.i64 0, D.int IntKind.i64 0, D.int IntKind.i64 0, D.int IntKind.i64 0, D.int IntKind.i64 0, D.int IntKind.i64 0, D.int IntKind.i64 0, D.int IntKind.i64 0, D.int IntKind.i64 0, D.int IntKind.i64 0, D.int IntKind.i64 0, D.int IntKind.i64 0, D.int IntKind.i64 0, D.int IntKind.i64 0, D.int IntKind.i64 0, D.int IntKind.i64 0, D.int IntKind.i64 0, D.int IntKind.i64 0, D.int IntKind.i64 0, D.int IntKind.i64 0, D.int IntKind.i64 0, D.int IntKind.i64 0, D.int IntKind.i64 0, D.int IntKind.i64 0, D.int IntKind.i64 0, D.int IntKind.i64 0, D.int IntKind.i64 0, D.int IntKind.i64 0, D.int IntKind.i64 0, D.int IntKind.i64 0, D.int IntKind.i64 0, D.int IntKind.i64 0, D.int IntKind.i64 0, D.int IntKind.i64 0, D.int IntKind.i64 0, D.int IntKind.i64 0, D.int IntKind.i64 0, D.int IntKind.i64 0, D.int IntKind.i64 0, D.int IntKind.i64 0, D.int IntKind.i64 0, D.int IntKind.i64 0, D.int IntKind.i64 0, D.int IntKind.i64 0, D.int IntKind.i64 0, D.int IntKind.i64 0, D.int IntKind.i64 0, D.int IntKind.i64 0, D.int IntKind.i64 0, D.int IntKind.i64 0, D.int IntKind.i64 0, D.int IntKind.i64 0, D.int IntKind.i64 0, D.int IntKind.i64 0, D.int IntKind.i64 0, D.int IntKind.i64 0, D.int IntKind.i64 0, D.int IntKind.i64 0, D.int IntKind.i64 0, D.int IntKind.i64 0, D.int IntKind.i64 0, D.int IntKind.i64 0, D.int IntKind.i64 0, D.int IntKind.i64 0, D.int IntKind.i64 0, D.int IntKind.i64 0, D.int IntKind.i64 0, D.int IntKind.i64 0, D.int IntKind.i64 0, D.int IntKind.i64 0, D.int IntKind.i64 0, D.int IntKind.i64 0, D.int IntKind.i64 0, D.int IntKind.i64 0, D.int IntKind.i64 0, D.int IntKind.i64 0, D.int IntKind.i64 0, D.int IntKind.i64 0, D.int IntKind.i64 0, D.int IntKind.i64 0, D.int IntKind.i64 0, D.int IntKind.i64 0, D.int IntKind.i64 0, D.int IntKind.i64 0, D.int IntKind.i64 0, D.int IntKind.i64 0, D.int IntKind.i64 0, D.int IntKind.i64 0, D.int IntKind.i64 0, D.int IntKind.i64 0, D.int IntKind.i64 0, D.int IntKind.i64 0, D.int IntKind.i64 0, D.int IntKind.i64 0, D.int IntKind.i64 0, D.int IntKind.i64 0, D.int IntKind.i64 0, D.int IntKind.i64 0, D.int IntKind.i64 0, D.int IntKind.i64 0, D.int IntKind.i64 0, D.int IntKind.i64 0, D.int IntKind.i64 0, D.int IntKind.i64 0, D.int IntKind.i64 0, D.int IntKind.i64 0, D.int IntKind.i64 0, D.int IntKind.i64 0, D.int IntKind.i64 0, D.int IntKind.i64 0, D.int IntKind.i64 0, D.int IntKind.i64 0, D.int IntKind.i64 0, D.int IntKind.i64 0, D.int IntKind.i64 0, D.int IntKind.i64 0, D.int IntKind.i64 0, D.int IntKind.i64 0] false := (Eq.refl _).trans rfl
@[go_sem] theorem tt_156 : Tt 156 = Ty.ar 5 32 154 [D.int IntKind.i64 0, D.int IntKind.i64 0, D.int IntKind.i64 0, D.int IntKind.i64 0, D.int IntKind.i64 0, D.int IntKind.i64 0, D.int IntKind.i64 0, D.int IntKind.i64 0, D.int IntKind.i64 0, D.int IntKind.i64 0, D.int IntKind.i64 0, D.int IntKind.i64 0, D.int IntKind.i64 0, D.int IntKind.i64 0, D.int IntKind.i64 0, D.int IntKind.i64 0, D.int IntKind.i64 0, D.int IntKind.i64 0, D.int IntKind.i64 0, D.int IntKind.i64 0, D.int IntKind.i64 0, D.int IntKind.i64 0, D.int IntKind.i64 0, D.int IntKind.i64 0, D.int IntKind.i64 0, D.int IntKind.i64 0, D.int IntKind.i64 0, D.int IntKind.i64 0, D.int IntKind.i64 0, D.int IntKind.i64 0, D.int IntKind.i64 0, D.int IntKind.i64 0, D.int IntKind.i64 0, D.int IntKind.i64 0, D.int IntKind.i64 0, D.int IntKind.i64 0, D.int IntKind.i64 0, D.int IntKind.i64 0, D.int IntKind.i64 0, D.int IntKind.i64 0, D.int IntKind.i64 0, D.int IntKind.i64 0, D.int IntKind.i64 0, D.int IntKind.i64 0, D.int IntKind.i64 0, D.int IntKind.i64 0, D.int IntKind.i64 0, D.int IntKind.i64 0, D.int IntKind.i64 0, D.int IntKind.i64 0, D.int IntKind.i64 0, D.int IntKind.i64 0, D.int IntKind.i64 0, D.int IntKind.i64 0, D.int IntKind.i64 0, D.int IntKind.i64 0, D.int IntKind.i64 0, D.int IntKind.i64 0, D.int IntKind.i64 0, D.int IntKind.i64 0, D.int IntKind.i64 0, D.int IntKind.i64 0, D.int IntKind.i64 0, D.int IntKind.i64 0, D.int IntKind.i64 0, D.int IntKind.i64 0, D.int IntKind.i64 0, D.int IntKind.i64 0, D.int IntKind.i64 0, D.int IntKind.i64 0, D.int IntKind.i64 0, D.int IntKind.i64 0, D.int IntKind.i64 0, D.int IntKind.i64 0, D.int IntKind.i64 0, D.int IntKind.i64 0, D.int IntKind.i64 0, D.int IntKind.i64 0, D.int IntKind.i64 0, D.int IntKind.i64 0, D.int IntKind.i64 0, D.int IntKind.i64 0, D.int IntKind.i64 0, D.int IntKind.i64 0, D.int IntKind.i64 0, D.int IntKind.i64 0, D.int IntKind.i64 0, D.int IntKind.i64 0, D.int IntKind.i64 0, D.int IntKind.i64 0, D.int IntKind.i64 0, D.int IntKind.i64 0, D.int IntKind.i64 0, D.int IntKind.i64 0, D.int IntKind.i64 0, D.int IntKind.i64 0, D.int IntKind.i64 0, D.int IntKind.i64 0, D.int IntKind.i64 0, D.int IntKind.i64 0, D.int IntKind.i64 0, D.int IntKind.i64 0, D.int IntKind.i64 0, D.int IntKind.i64 0, D.int IntKind.i64 0, D.int IntKind.i64 0, D.int IntKind.i64 0, D.int IntKind.i64 0, D.int IntKind.i64 0, D.int IntKind.i64 0, D.int IntKind.i64 0, D.int IntKind.i64 0, D.int IntKind.i64 0, D.int IntKind.i64 0, D.int IntKind.i64 0, D.int IntKind.i64 0, D.int IntKind.i64 0, D.int IntKind.i64 0, D.int IntKind.i64 0, D.int IntKind.i64 0, D.int IntKind.i64 0, D.int IntKind.i64 0, D.int IntKind.i64 0, D.int IntKind.i64 0, D.int IntKind.i64 0, D.int IntKind.i64 0, D.int IntKind.i64 0, D.int IntKind.i64 0, D.int IntKind.i64 0, D.int IntKind.i64 0, D.int IntKind.i64 0, D.int IntKind.i64 0, D.int IntKind.i64 0, D.int IntKind.i64 0, D.int IntKind.i64 0, D.int IntKind.i64 0, D.int IntKind.i64 0, D.int IntKind.i64 0, D.int IntKind.i64 0, D.int IntKind.i64 0, D.int IntKind.i64 0, D.int IntKind.i64 0, D.int IntKind.i64 0, D.int IntKind.i64 0, D.int IntKind.i64 0, D.int IntKind.i64 0, D.int IntKind.i64 0, D.int IntKind.i64 0, D.int IntKind.i64 0, D.int IntKind.i64 0, D.int IntKind.i64 0, D.int IntKind.i64 0, D.int IntKind.i64 0, D.int IntKind.i64 0, D.int IntKind.i64 0, D.int IntKind.i64 0, D.int IntKind.i64 0, D.int IntKind.i64 0, D.int IntKind.i64 0, D.int IntKind.i64 0] false := (Eq.refl _).trans rfl
@[go_sem] theorem tt_157 : Tt 157 = Ty.ar 32 1 4 [D.bool false, D.bool false, D.bool false, D.bool false, D.bool false, D.bool false, D.bool false, D.bool false, D.bool false, D.bool false, D.bool false, D.bool false, D.bool false, D.bool false, D.bool false, D.bool false, D.bool false, D.bool false, D.bool false, D.bool false, D.bool false, D.bool false, D.bool false, D.bool false, D.bool false, D.bool false, D.bool false, D.bool false, D.bool false, D.bool false, D.bool false, D.bool false] false := (Eq.refl _).trans rfl
@[go_sem] theorem tt_158 : Tt 158 = Ty.sc (D.int IntKind.u64 0) := (Eq.refl _).trans rfl
@[go_sem] theorem tt_159 : Tt 159 = Ty.sc D.nilf := (Eq.refl _).trans rfl
@[go_sem] theorem tt_160 : Tt 160 = Ty.sl 1 (D.sl []) := (Eq.refl _).trans rfl
@[go_sem] theorem tt_161 : Tt 161 = Ty.sc D.nilf := (Eq.refl _).trans rfl
@[go_sem] theorem tt_162 : Tt 162 = Ty.st 3 [(0, 1, 3), (1, 1, 3), (2, 1, 3)] [D.int IntKind.i64 0, D.int IntKind.i64 0, D.int IntKind.i64 0] true := (Eq.refl _).trans rfl
@[go_sem] theorem tt_163 : Tt 163 = Ty.st 3 [(0, 1, 3), (1, 1, 3), (2, 1, 3)] [D.int IntKind.i64 0, D.int IntKind.i64 0, D.int IntKind.i64 0] true := (Eq.refl _).trans rfl
@[go_sem] theorem tt_165 : Tt 165 = Ty.sc D.nilf := (Eq.refl _).trans rfl
@[go_sem] theorem tt_166 : Tt 166 = Ty.sc D.nilf := (Eq.refl _).trans rfl
@[go_sem] theorem tt_167 : Tt 167 = Ty.st 5 [(0, 3, 132), (3, 1, 81), (4, 1, 3)] [D.int IntKind.i64 0, D.int IntKind.i64 0, D.sl [], D.sl [], D.int IntKind.i64 0] false := (Eq.refl _).trans rfl
@[go_sem] theorem tt_168 : Tt 168 = Ty.st 5 [(0, 3, 132), (3, 1, 81), (4, 1, 3)] [D.int IntKind.i64 0, D.int IntKind.i64 0, D.sl [], D.sl [], D.int IntKind.i64 0] false := (Eq.refl _).trans rfl
@[go_sem] theorem tt_170 : Tt 170 = Ty.sc D.nilf := (Eq.refl _).trans rfl
@[go_sem] theorem tt_171 : Tt 171 = Ty.sc D.nilf := (Eq.refl _).trans rfl
@[go_sem] theorem tt_172 : Tt 172 = Ty.sc D.nilf := (Eq.refl _).trans rfl
@[go_sem] theorem tt_173 : Tt 173 = Ty.sc D.nilf := (Eq.refl _).trans rfl
@[go_sem] theorem tt_174 : Tt 174 = Ty.sc D.nilf := (Eq.refl _).trans rfl
@[go_sem] theorem tt_175 : Tt 175 = Ty.sc D.nilf := (Eq.refl _).trans rfl
@[go_sem] theorem tt_176 : Tt 176 = Ty.sc D.nilf := (Eq.refl _).trans rfl
@[go_sem] theorem tt_178 : Tt 178 = Ty.sc D.nilf := (Eq.refl _).trans rfl
@[go_sem] theorem tt_179 : Tt 179 = Ty.sc D.nilf := (Eq.refl _).trans rfl
@[go_sem] theorem tt_180 : Tt 180 = Ty.sc D.nilf := (Eq.refl _).trans rfl
@[go_sem] theorem tt_181 : Tt 181 = Ty.sc D.nilf := (Eq.refl _).trans rfl
@[go_sem] theorem tt_182 : Tt 182 = Ty.ar 5 1 4 [D.bool false, D.bool false, D.bool false, D.bool false, D.bool false] false := (Eq.refl _).trans rfl
@[go_sem] theorem tt_183 : Tt 183 = Ty.sc D.nilf := (Eq.refl _).trans rfl
@[go_sem] theorem tt_184 : Tt 184 = Ty.sc D.nilf := (Eq.refl _).trans rfl
@[go_sem] theorem tt_185 : Tt 185 = Ty.sc D.nilf := (Eq.refl _).trans rfl
@[go_sem] theorem tt_186 : Tt 186 = Ty.mp (D.int IntKind.i64 0) (D.bool false) := (Eq.refl _).trans rfl
@[go_sem] theorem tt_187 : Tt 187 = Ty.sc D.nilf := (Eq.refl _).trans rfl
@[go_sem] theorem tt_188 : Tt 188 = Ty.sc D.nilf := (Eq.refl _).trans rfl
@[go_sem] theorem tt_189 : Tt 189 = Ty.sc D.nilf := (Eq.refl _).trans rfl
@[go_sem] theorem tt_190 : Tt 190 = Ty.sc D.nilf := (Eq.refl _).trans rfl
@[go_sem] theorem tt_191 : Tt 191 = Ty.sc D.nilf := (Eq.refl _).trans rfl
@[go_sem] theorem tt_192 : Tt 192 = Ty.sc D.nilf := (Eq.refl _).trans rfl
@[go_sem] theorem tt_193 : Tt 193 = Ty.sc D.nilf := (Eq.refl _).trans rfl
@[go_sem] theorem tt_194 : Tt 194 = Ty.sc D.nilf := (Eq.refl _).trans rfl
@[go_sem] theorem tt_195 : Tt 195 = Ty.sc D.nilf := (Eq.refl _).trans rfl
@[go_sem] theorem tt_196 : Tt 196 = Ty.sc D.nilf := (Eq.refl _).trans rfl
@[go_sem] theorem tt_197 : Tt 197 = Ty.sc D.nilf := (Eq.refl _).trans rfl
@[go_sem] theorem tt_198 : Tt 198 = Ty.sc D.nilf := (Eq.refl _).trans rfl
@[go_sem] theorem tt_199 : Tt 199 = Ty.sc D.nilp := (Eq.refl _).trans rfl
@[go_sem] theorem tt_200 : Tt 200 = Ty.sc D.nilf := (Eq.refl _).trans rfl
@[go_sem] theorem tt_201 : Tt 201 = Ty.sc (D.int IntKind.i64 0) := (Eq.refl _).trans rfl
@[go_sem] theorem tt_203 : Tt 203 = Ty.sc D.nilf := (Eq.refl _).trans rfl
@[go_sem] theorem tt_204 : Tt 204 = Ty.sc D.nilf := (Eq.refl _).trans rfl
@[go_sem] theorem tt_205 : Tt 205 = Ty.sc D.nilf := (Eq.refl _).trans rfl
@[go_sem] theorem tt_206 : Tt 206 = Ty.sc D.nilf := (Eq.refl _).trans rfl
@[go_sem] theorem tt_208 : Tt 208 = Ty.sc D.nilf := (Eq.refl _).trans rfl
@[go_sem] theorem tt_209 : Tt 209 = Ty.sc D.nilf := (Eq.refl _).trans rfl
@[go_sem] theorem tt_210 : Tt 210 = Ty.sc (D.int IntKind.u32 0) := (Eq.refl _).trans rfl
@[go_sem] theorem tt_211 : Tt 211 = Ty.sc D.nilf := (Eq.refl _).trans rfl
@[go_sem] theorem tt_212 : Tt 212 = Ty.sc (D.int IntKind.u64 0) := (Eq.refl _).trans rfl
@[go_sem] theorem tt_213 : Tt 213 = Ty.sc (D.int IntKind.u64 0) := (Eq.refl _).trans rfl
@[go_sem] theorem tt_214 : Tt 214 = Ty.sc D.nilf := (Eq.refl _).trans rfl
@[go_sem] theorem tt_215 : Tt 215 = Ty.sc D.nilf := (Eq.refl _).trans rfl
@[go_sem] theorem tt_216 : Tt 216 = Ty.sc D.nilf := (Eq.refl _).trans rfl
@[go_sem] theorem tt_217 : Tt 217 = Ty.sc D.nilp := (Eq.refl _).trans rfl
@[go_sem] theorem tt_218 : Tt 218 = Ty.sc D.nilf := (Eq.refl _).trans rfl
@[go_sem] theorem tt_219 : Tt 219 = Ty.sc D.nilf := (Eq.refl _).trans rfl
@[go_sem] theorem tt_220 : Tt 220 = Ty.sc D.nilp := (Eq.refl _).trans rfl
@[go_sem] theorem tt_222 : Tt 222 = Ty.sc D.nilf := (Eq.refl _).trans rfl
@[go_sem] theorem tt_223 : Tt 223 = Ty.sc D.nilf := (Eq.refl _).trans rfl
@[go_sem] theorem tt_224 : Tt 224 = Ty.st 4 [(0, 1, 17), (1, 1, 17), (2, 1, 17), (3, 1, 9)] [D.nilp, D.nilp, D.nilp, D.str ⟨#[]⟩] false := (Eq.refl _).trans rfl
@[go_sem] theorem tt_225 : Tt 225 = Ty.st 4 [(0, 1, 17), (1, 1, 17), (2, 1, 17), (3, 1, 9)] [D.nilp, D.nilp, D.nilp, D.str ⟨#[]⟩] false := (Eq.refl _).trans rfl
@[go_sem] theorem tt_226 : Tt 226 = Ty.ar 0 1 16 [] false := (Eq.refl _).trans rfl
@[go_sem] theorem tt_229 : Tt 229 = Ty.sc D.nilf := (Eq.refl _).trans rfl
@[go_sem] theorem tt_230 : Tt 230 = Ty.sc (D.int IntKind.u8 0) := (Eq.refl _).trans rfl
@[go_sem] theorem tt_231 : Tt 231 = Ty.sc (D.int IntKind.u8 0) := (Eq.refl _).trans rfl
@[go_sem] theorem tt_232 : Tt 232 = Ty.sc D.nilf := (Eq.refl _).trans rfl
@[go_sem] theorem tt_233 : Tt 233 = Ty.sc D.nilp := (Eq.refl _).trans rfl
@[go_sem] theorem tt_234 : Tt 234 = Ty.sc (D.int IntKind.i32 0) := (Eq.refl _).trans rfl
@[go_sem] theorem tt_235 : Tt 235 = Ty.sc (D.int IntKind.i32 0) := (Eq.refl _).trans rfl
@[go_sem] theorem tt_236 : Tt 236 = Ty.st 11 [(0, 1, 12), (1, 1, 12), (2, 1, 210), (3, 1, 230), (4, 1, 5), (5, 1, 5), (6, 1, 231), (7, 1, 232), (8, 1, 233), (9, 1, 234), (10, 1, 235)] [D.int IntKind.u64 0, D.int IntKind.u64 0, D.int IntKind.u32 0, D.int IntKind.u8 0, D.int IntKind.u8 0, D.int IntKind.u8 0, D.int IntKind.u8 0, D.nilf, D.nilp, D.int IntKind.i32 0, D.int IntKind.i32 0] false := (Eq.refl _).trans rfl
@[go_sem] theorem tt_237 : Tt 237 = Ty.st 11 [(0, 1, 12), (1, 1, 12), (2, 1, 210), (3, 1, 230), (4, 1, 5), (5, 1, 5), (6, 1, 231), (7, 1, 232), (8, 1, 233), (9, 1, 234), (10, 1, 235)] [D.int IntKind.u64 0, D.int IntKind.u64 0, D.int IntKind.u32 0, D.int IntKind.u8 0, D.int IntKind.u8 0, D.int IntKind.u8 0, D.int IntKind.u8 0, D.nilf, D.nilp, D.int IntKind.i32 0, D.int IntKind.i32 0] false := (Eq.refl _).trans rfl

end Go.Aw
end

section
set_option maxRecDepth 100000
namespace Go.Aw
open Go Go.Proofs.Try

theorem ForgetTo.same' {n0 : Nat} {E E' : Env} {H H' : Heap} (hn : n0 ≤ H.length) (he : EWe E E') (hH : H = H') : ForgetTo n0 E H E' H' := by
  subst hH
  exact ForgetTo.same hn he

theorem w64 {n : Int} (h0 : -9223372036854775808 ≤ n) (h1 : n ≤ 9223372036854775807) : IntKind.i64.wrap n = n := by
  simp [IntKind.wrap, IntKind.bits, IntKind.signed]
  omega

def idx {α : Type} (p : α → Bool) : List α → Int → Int
  | [], _ => -1
  | x :: r, i => if p x = true then i else idx p r (i + 1)

theorem idx_drop {α : Type} (p : α → Bool) {l : List α} {i : Nat} (h : i < l.length) : idx p (l.drop i) i = if p l[i] = true then (i : Int) else idx p (l.drop (i + 1)) ((i + 1 : Nat) : Int) := by
  rw [List.drop_eq_getElem_cons h]
  simp [idx]

theorem idx_ge {α : Type} (p : α → Bool) : ∀ (l : List α) (i : Int), 0 ≤ i → decide (0 ≤ idx p l i) = l.any p
  | [], i, h => by simp [idx]
  | x :: r, i, h => by
    simp only [idx, List.any_cons]
    by_cases hp : p x = true
    · simpa [hp] using h
    · have hp' : p x = false := by simpa using hp
      simpa [hp'] using idx_ge p r (i + 1) (by omega)

/-- What is asked of elements: of their size, and loaded as they are. -/
def Enc {α : Type} (es : Nat) (ty : Ty) (enc : α → D) : Prop := ∀ x, (dcells (enc x)).length = es ∧ loadD ty (dcells (enc x)) = some (enc x)

theorem c119 {α : Type} {enc : α → D} (he : Enc 1 (Tt 3) enc) {H : Heap} {Q : V → Heap → Prop} (l : List α) (hl : l.length ≤ 4294967296) (k : Nat) (fx fy : List V) (p : α → Bool) (hf : ∀ x ∈ l, ∀ Q, Q (.d (.bool (p x))) H → ACallV prog (.fn (.func k) fx fy) [.d (enc x)] H Q) (h : Q (.d (.int .i64 (idx p l 0))) H) :
    ACalls prog 119 [.d (.sl (l.map enc)), .fn (.func k) fx fy] H Q := by
  refine ACalls.run (fun _ => false) tt_ok (fn := f119) (rs := [.tmp 4]) rfl rfl rfl rfl rfl rfl rfl ?_
  simp only [go_sem]
  refine ALoop.by (S := Nat) (fun i => [(8, .d (.int .i64 i)), (7, .d (.int .i64 l.length)), (0, .d (.sl (l.map enc))), (1, .fn (.func k) fx fy)]) (fun _ => H) (fun i => l.length - i) (fun i => i ≤ l.length ∧ idx p (l.drop i) i = idx p l 0) 0 (Nat.le_refl _) (fun _ h => nomatch h) ⟨Nat.zero_le _, rfl⟩ ?_ ?_
  · simp [ForgetTo, EW, VW, BBq, Env.look, pubV]
  · rintro i ⟨hi, hx⟩ hn
    refine AWP.run (fun _ => false) tt_ok (fun _ h => nomatch h) hn rfl ?_
    simp only [go_sem]
    refine Br_split (fun h => ?_) (fun h => ?_) <;> simp only [go_sem, h]
    · have hlt : i < l.length := by simpa using h
      rw [idx_drop p hlt] at hx
      have he1 := (he l[i]).1
      have he2 := (he l[i]).2
      simp only [go_sem, he1] at he2
      rw [idx_nat, List.getElem?_map, List.getElem?_eq_getElem hlt]
      simp only [go_sem, he1, he2]
      refine hf _ (List.getElem_mem hlt) _ ?_
      simp only [go_sem]
      refine Br_split (fun h => ?_) (fun h => ?_) <;> simp only [go_sem, h]
      · rw [h] at hx
        simp only [if_true] at hx
        rw [hx]; assumption
      · rw [h] at hx
        simp only [Bool.false_eq_true, if_false] at hx
        exact ⟨i + 1, ⟨hlt, hx⟩, by omega, by simp [ForgetTo, EW, VW, BBq, Env.look, pubV, w64 (n := (i : Int) + 1) (by omega) (by omega)]⟩
    · have hlt : ¬ i < l.length := by simpa using h
      have : l.drop i = [] := List.drop_eq_nil_of_le (by omega)
      rw [this] at hx
      simp only [idx] at hx
      rw [hx]; assumption

theorem c103 {α : Type} {enc : α → D} (he : Enc 1 (Tt 3) enc) {H : Heap} {Q : V → Heap → Prop} (l : List α) (hl : l.length ≤ 4294967296) (k : Nat) (fx fy : List V) (p : α → Bool) (hf : ∀ x ∈ l, ∀ Q, Q (.d (.bool (p x))) H → ACallV prog (.fn (.func k) fx fy) [.d (enc x)] H Q) (h : Q (.d (.bool (l.any p))) H) :
    ACalls prog 103 [.d (.sl (l.map enc)), .fn (.func k) fx fy] H Q := by
  refine ACalls.run (fun _ => false) tt_ok (fn := f103) (rs := [.tmp 4]) rfl rfl rfl rfl rfl rfl rfl ?_
  simp only [go_sem]
  refine c119 he l hl k fx fy p hf ?_
  simp only [go_sem]
  rw [idx_ge p l 0 (by omega)]
  exact h

theorem c105 {α : Type} {enc : α → D} (he : Enc 4 (Tt 117) enc) {H : Heap} {Q : V → Heap → Prop} (l : List α) (hl : l.length ≤ 4294967296) (k : Nat) (fx fy : List V) (p : α → Bool) (hf : ∀ x ∈ l, ∀ Q, Q (.d (.bool (p x))) H → ACallV prog (.fn (.func k) fx fy) [.d (enc x)] H Q) (h : Q (.d (.int .i64 (idx p l 0))) H) :
    ACalls prog 105 [.d (.sl (l.map enc)), .fn (.func k) fx fy] H Q := by
  refine ACalls.run (fun _ => false) tt_ok (fn := f105) (rs := [.tmp 4]) rfl rfl rfl rfl rfl rfl rfl ?_
  simp only [go_sem]
  refine ALoop.by (S := Nat) (fun i => [(8, .d (.int .i64 i)), (7, .d (.int .i64 l.length)), (0, .d (.sl (l.map enc))), (1, .fn (.func k) fx fy)]) (fun _ => H) (fun i => l.length - i) (fun i => i ≤ l.length ∧ idx p (l.drop i) i = idx p l 0) 0 (Nat.le_refl _) (fun _ h => nomatch h) ⟨Nat.zero_le _, rfl⟩ ?_ ?_
  · simp [ForgetTo, EW, VW, BBq, Env.look, pubV]
  · rintro i ⟨hi, hx⟩ hn
    refine AWP.run (fun _ => false) tt_ok (fun _ h => nomatch h) hn rfl ?_
    simp only [go_sem]
    refine Br_split (fun h => ?_) (fun h => ?_) <;> simp only [go_sem, h]
    · have hlt : i < l.length := by simpa using h
      rw [idx_drop p hlt] at hx
      have he1 := (he l[i]).1
      have he2 := (he l[i]).2
      simp only [go_sem, he1] at he2
      rw [idx_nat, List.getElem?_map, List.getElem?_eq_getElem hlt]
      simp only [go_sem, he1, he2]
      refine hf _ (List.getElem_mem hlt) _ ?_
      simp only [go_sem]
      refine Br_split (fun h => ?_) (fun h => ?_) <;> simp only [go_sem, h]
      · rw [h] at hx
        simp only [if_true] at hx
        rw [hx]; assumption
      · rw [h] at hx
        simp only [Bool.false_eq_true, if_false] at hx
        exact ⟨i + 1, ⟨hlt, hx⟩, by omega, by simp [ForgetTo, EW, VW, BBq, Env.look, pubV, w64 (n := (i : Int) + 1) (by omega) (by omega)]⟩
    · have hlt : ¬ i < l.length := by simpa using h
      have : l.drop i = [] := List.drop_eq_nil_of_le (by omega)
      rw [this] at hx
      simp only [idx] at hx
      rw [hx]; assumption

theorem c75 {α : Type} {enc : α → D} (he : Enc 4 (Tt 117) enc) {H : Heap} {Q : V → Heap → Prop} (l : List α) (hl : l.length ≤ 4294967296) (k : Nat) (fx fy : List V) (p : α → Bool) (hf : ∀ x ∈ l, ∀ Q, Q (.d (.bool (p x))) H → ACallV prog (.fn (.func k) fx fy) [.d (enc x)] H Q) (h : Q (.d (.bool (l.any p))) H) :
    ACalls prog 75 [.d (.sl (l.map enc)), .fn (.func k) fx fy] H Q := by
  refine ACalls.run (fun _ => false) tt_ok (fn := f75) (rs := [.tmp 4]) rfl rfl rfl rfl rfl rfl rfl ?_
  simp only [go_sem]
  refine c105 he l hl k fx fy p hf ?_
  simp only [go_sem]
  rw [idx_ge p l 0 (by omega)]
  exact h

theorem c118 {α : Type} {enc : α → D} (he : Enc 2 (Tt 23) enc) {H : Heap} {Q : V → Heap → Prop} (l : List α) (hl : l.length ≤ 4294967296) (k : Nat) (fx fy : List V) (p : α → Bool) (hf : ∀ x ∈ l, ∀ Q, Q (.d (.bool (p x))) H → ACallV prog (.fn (.func k) fx fy) [.d (enc x)] H Q) (h : Q (.d (.int .i64 (idx p l 0))) H) :
    ACalls prog 118 [.d (.sl (l.map enc)), .fn (.func k) fx fy] H Q := by
  refine ACalls.run (fun _ => false) tt_ok (fn := f118) (rs := [.tmp 4]) rfl rfl rfl rfl rfl rfl rfl ?_
  simp only [go_sem]
  refine ALoop.by (S := Nat) (fun i => [(8, .d (.int .i64 i)), (7, .d (.int .i64 l.length)), (0, .d (.sl (l.map enc))), (1, .fn (.func k) fx fy)]) (fun _ => H) (fun i => l.length - i) (fun i => i ≤ l.length ∧ idx p (l.drop i) i = idx p l 0) 0 (Nat.le_refl _) (fun _ h => nomatch h) ⟨Nat.zero_le _, rfl⟩ ?_ ?_
  · simp [ForgetTo, EW, VW, BBq, Env.look, pubV]
  · rintro i ⟨hi, hx⟩ hn
    refine AWP.run (fun _ => false) tt_ok (fun _ h => nomatch h) hn rfl ?_
    simp only [go_sem]
    refine Br_split (fun h => ?_) (fun h => ?_) <;> simp only [go_sem, h]
    · have hlt : i < l.length := by simpa using h
      rw [idx_drop p hlt] at hx
      have he1 := (he l[i]).1
      have he2 := (he l[i]).2
      simp only [go_sem, he1] at he2
      rw [idx_nat, List.getElem?_map, List.getElem?_eq_getElem hlt]
      simp only [go_sem, he1, he2]
      refine hf _ (List.getElem_mem hlt) _ ?_
      simp only [go_sem]
      refine Br_split (fun h => ?_) (fun h => ?_) <;> simp only [go_sem, h]
      · rw [h] at hx
        simp only [if_true] at hx
        rw [hx]; assumption
      · rw [h] at hx
        simp only [Bool.false_eq_true, if_false] at hx
        exact ⟨i + 1, ⟨hlt, hx⟩, by omega, by simp [ForgetTo, EW, VW, BBq, Env.look, pubV, w64 (n := (i : Int) + 1) (by omega) (by omega)]⟩
    · have hlt : ¬ i < l.length := by simpa using h
      have : l.drop i = [] := List.drop_eq_nil_of_le (by omega)
      rw [this] at hx
      simp only [idx] at hx
      rw [hx]; assumption

theorem c101 {α : Type} {enc : α → D} (he : Enc 2 (Tt 23) enc) {H : Heap} {Q : V → Heap → Prop} (l : List α) (hl : l.length ≤ 4294967296) (k : Nat) (fx fy : List V) (p : α → Bool) (hf : ∀ x ∈ l, ∀ Q, Q (.d (.bool (p x))) H → ACallV prog (.fn (.func k) fx fy) [.d (enc x)] H Q) (h : Q (.d (.bool (l.any p))) H) :
    ACalls prog 101 [.d (.sl (l.map enc)), .fn (.func k) fx fy] H Q := by
  refine ACalls.run (fun _ => false) tt_ok (fn := f101) (rs := [.tmp 4]) rfl rfl rfl rfl rfl rfl rfl ?_
  simp only [go_sem]
  refine c118 he l hl k fx fy p hf ?_
  simp only [go_sem]
  rw [idx_ge p l 0 (by omega)]
  exact h

theorem c122 {α : Type} {enc : α → D} (he : Enc 3 (Tt 75) enc) {H : Heap} {Q : V → Heap → Prop} (l : List α) (hl : l.length ≤ 4294967296) (k : Nat) (fx fy : List V) (p : α → Bool) (hf : ∀ x ∈ l, ∀ Q, Q (.d (.bool (p x))) H → ACallV prog (.fn (.func k) fx fy) [.d (enc x)] H Q) (h : Q (.d (.int .i64 (idx p l 0))) H) :
    ACalls prog 122 [.d (.sl (l.map enc)), .fn (.func k) fx fy] H Q := by
  refine ACalls.run (fun _ => false) tt_ok (fn := f122) (rs := [.tmp 4]) rfl rfl rfl rfl rfl rfl rfl ?_
  simp only [go_sem]
  refine ALoop.by (S := Nat) (fun i => [(8, .d (.int .i64 i)), (7, .d (.int .i64 l.length)), (0, .d (.sl (l.map enc))), (1, .fn (.func k) fx fy)]) (fun _ => H) (fun i => l.length - i) (fun i => i ≤ l.length ∧ idx p (l.drop i) i = idx p l 0) 0 (Nat.le_refl _) (fun _ h => nomatch h) ⟨Nat.zero_le _, rfl⟩ ?_ ?_
  · simp [ForgetTo, EW, VW, BBq, Env.look, pubV]
  · rintro i ⟨hi, hx⟩ hn
    refine AWP.run (fun _ => false) tt_ok (fun _ h => nomatch h) hn rfl ?_
    simp only [go_sem]
    refine Br_split (fun h => ?_) (fun h => ?_) <;> simp only [go_sem, h]
    · have hlt : i < l.length := by simpa using h
      rw [idx_drop p hlt] at hx
      have he1 := (he l[i]).1
      have he2 := (he l[i]).2
      simp only [go_sem, he1] at he2
      rw [idx_nat, List.getElem?_map, List.getElem?_eq_getElem hlt]
      simp only [go_sem, he1, he2]
      refine hf _ (List.getElem_mem hlt) _ ?_
      simp only [go_sem]
      refine Br_split (fun h => ?_) (fun h => ?_) <;> simp only [go_sem, h]
      · rw [h] at hx
        simp only [if_true] at hx
        rw [hx]; assumption
      · rw [h] at hx
        simp only [Bool.false_eq_true, if_false] at hx
        exact ⟨i + 1, ⟨hlt, hx⟩, by omega, by simp [ForgetTo, EW, VW, BBq, Env.look, pubV, w64 (n := (i : Int) + 1) (by omega) (by omega)]⟩
    · have hlt : ¬ i < l.length := by simpa using h
      have : l.drop i = [] := List.drop_eq_nil_of_le (by omega)
      rw [this] at hx
      simp only [idx] at hx
      rw [hx]; assumption

theorem c114 {α : Type} {enc : α → D} (he : Enc 3 (Tt 75) enc) {H : Heap} {Q : V → Heap → Prop} (l : List α) (hl : l.length ≤ 4294967296) (k : Nat) (fx fy : List V) (p : α → Bool) (hf : ∀ x ∈ l, ∀ Q, Q (.d (.bool (p x))) H → ACallV prog (.fn (.func k) fx fy) [.d (enc x)] H Q) (h : Q (.d (.bool (l.any p))) H) :
    ACalls prog 114 [.d (.sl (l.map enc)), .fn (.func k) fx fy] H Q := by
  refine ACalls.run (fun _ => false) tt_ok (fn := f114) (rs := [.tmp 4]) rfl rfl rfl rfl rfl rfl rfl ?_
  simp only [go_sem]
  refine c122 he l hl k fx fy p hf ?_
  simp only [go_sem]
  rw [idx_ge p l 0 (by omega)]
  exact h

end Go.Aw
end

section
set_option maxRecDepth 100000
namespace Go.Aw
open Go Go.Proofs.Try

theorem c104 {n a b : Int} {i j : Nat} {H : Heap} {Q : V → Heap → Prop} (h0 : H[i]? = some (.cells [.d (.int .i64 a)])) (h1 : H[j]? = some (.cells [.d (.int .i64 b)])) (h : Q (.d (.bool (decide (n < a) || decide (b < n)))) H) :
    ACalls prog 104 [.d (.int .i64 n), .ptr i 0, .ptr j 0] H Q := by
  refine ACalls.run (fun _ => false) tt_ok (fn := f104) (rs := [.tmp 4]) rfl rfl rfl rfl rfl rfl rfl ?_
  simp only [go_sem, h0, h1]
  refine Br_split (fun hc => ?_) (fun hc => ?_) <;> simp only [go_sem, h0, h1, hc]
  · rw [hc] at h; exact h
  · rw [hc] at h; exact h

def within (a b : Int) (l : List Int) : Bool := !l.any fun n => decide (n < a) || decide (b < n)

theorem enc_int : Enc 1 (Tt 3) (D.int .i64) := fun x => ⟨rfl, rfl⟩

theorem c74 (a b : Int) (l : List Int) (hl : l.length ≤ 4294967296) : PC prog 74 [.d (.int .i64 a), .d (.int .i64 b), .d (.sl (l.map (.int .i64)))] (.d (.bool (within a b l))) := by
  refine PC.run (fun _ => false) tt_ok (fn := f74) (rs := [.tmp 6]) rfl rfl rfl rfl rfl rfl rfl ?_
  simp only [go_sem]
  refine ACallV.of rfl (c103 enc_int l hl 104 [] [.ptr 0 0, .ptr 1 0] (fun n => decide (n < a) || decide (b < n)) (fun x _ Q h => ACallV.of rfl (c104 rfl rfl h)) ?_)
  simp only [go_sem, within]

/-- A span. -/
structure Sp where
  lo : Int
  hi : Int
deriving DecidableEq

def Sp.d (s : Sp) : D := .agg [.int .i64 s.lo, .int .i64 s.hi]

theorem enc_sp : Enc 2 (Tt 23) Sp.d := fun x => ⟨rfl, rfl⟩

theorem c73 (a b : Int) (s : Sp) : PC prog 73 [.d (.int .i64 a), .d (.int .i64 b), .d s.d] (.d (.bool (within a b [s.lo, s.hi] && decide (s.lo ≤ s.hi)))) := by
  refine PC.run (fun _ => false) tt_ok (fn := f73) (rs := [.tmp 6]) rfl rfl rfl rfl rfl rfl rfl ?_
  simp only [go_sem, Sp.d]
  refine (c74 a b [s.lo, s.hi] (by simp)).call rfl rfl rfl ?_
  simp only [go_sem]
  refine Br_split (fun hc => ?_) (fun hc => ?_) <;> simp only [go_sem, hc]

/-- A plate. -/
structure Plate where
  rust : Sp
  takes : Int
  thin : Int
deriving DecidableEq

def Plate.d (p : Plate) : D := .agg [.int .i64 p.rust.lo, .int .i64 p.rust.hi, .int .i64 p.takes, .int .i64 p.thin]

theorem enc_plate : Enc 4 (Tt 117) Plate.d := fun x => ⟨rfl, rfl⟩

/-- A bath. -/
structure Bath where
  str : Sp
  plates : List Plate
deriving DecidableEq

def Bath.d (b : Bath) : D := .agg [.int .i64 b.str.lo, .int .i64 b.str.hi, .sl (b.plates.map Plate.d)]

def badPlate (p : Plate) : Bool := !(within 0 600 [p.rust.lo, p.rust.hi] && decide (p.rust.lo ≤ p.rust.hi)) || !within 0 10 [p.takes] || !within 0 300 [p.thin]

theorem c72 (p : Plate) : PC prog 72 [.d p.d] (.d (.bool (badPlate p))) := by
  refine PC.run (fun _ => false) tt_ok (fn := f72) (rs := [.tmp 2]) rfl rfl rfl rfl rfl rfl rfl ?_
  simp only [go_sem, Plate.d]
  refine (c73 0 600 p.rust).call rfl rfl rfl ?_
  simp only [go_sem]
  refine Br_split (fun hc => ?_) (fun hc => ?_)
  · simp only [go_sem, hc, badPlate, Bool.true_or]
  · simp only [go_sem, hc]
    refine (c74 0 10 [p.takes] (by simp)).call rfl rfl rfl ?_
    simp only [go_sem, hc]
    refine Br_split (fun hd => ?_) (fun hd => ?_)
    · simp only [go_sem, hc, hd, badPlate, Bool.true_or]
    · simp only [go_sem, hc, hd]
      refine (c74 0 300 [p.thin] (by simp)).call rfl rfl rfl ?_
      simp only [go_sem, hc, hd, badPlate, Bool.false_or]

def checkP (b : Bath) : Int := if (!(within 1 40 [b.str.lo, b.str.hi] && decide (b.str.lo ≤ b.str.hi))) = true then 4 else if b.plates.length > 5 then 5 else if b.plates.any badPlate = true then 2 else 0

theorem c19 (b : Bath) (hl : b.plates.length ≤ 4294967296) : PC prog 19 [.d b.d] (.d (.int .i64 (checkP b))) := by
  refine PC.run (fun _ => false) tt_ok (fn := f19) (rs := [.tmp 2]) rfl rfl rfl rfl rfl rfl rfl ?_
  simp only [go_sem, Bath.d]
  refine (c73 1 40 b.str).call rfl rfl rfl ?_
  simp only [go_sem]
  refine Br_split (fun hc => ?_) (fun hc => ?_)
  · simp only [go_sem, hc, checkP]
  · simp only [go_sem, hc]
    refine Br_split (fun hd => ?_) (fun hd => ?_)
    · have : b.plates.length > 5 := by simp at hd; omega
      simp only [go_sem, hc, hd, checkP, if_pos this]
    · have hn : ¬ b.plates.length > 5 := by simp at hd; omega
      simp only [go_sem, hc, hd]
      refine ACallV.of rfl (c75 enc_plate b.plates hl 72 [] [] badPlate (fun x _ Q h => (c72 x).call rfl rfl rfl h) ?_)
      simp only [go_sem]
      refine Br_split (fun he => ?_) (fun he => ?_) <;> simp only [go_sem, he, hc, checkP, if_neg hn]
end Go.Aw
end

section
set_option maxRecDepth 100000
namespace Go.Aw
open Go Go.Proofs.Try

/-- A step. -/
structure Step where
  plate : Int
  hours : Int
deriving DecidableEq

def Step.d (s : Step) : D := .agg [.int .i64 s.plate, .int .i64 s.hours]

theorem xw64 {n : Nat} (h : n < 9223372036854775808) : IntKind.i64.wrap (n : Int) = n := w64 (by omega) (by omega)

theorem bv64 {n : Nat} (h : n < 2 ^ 64) : (BitVec.ofInt 64 (n : Int)).toNat = n := by
  rw [BitVec.toNat_ofInt]
  have : ((n : Int) % ((2 ^ 64 : Nat) : Int)) = n := Int.emod_eq_of_lt (by omega) (by exact_mod_cast h)
  rw [this]; simp

theorem and64 {a b : Nat} (ha : a < 2 ^ 63) (hb : b < 2 ^ 63) : IntKind.i64.wrap (((BitVec.ofInt 64 (a : Int) &&& BitVec.ofInt 64 (b : Int)).toNat : Nat) : Int) = ((a &&& b : Nat) : Int) := by
  rw [BitVec.toNat_and, bv64 (by omega), bv64 (by omega)]
  exact xw64 (Nat.lt_of_le_of_lt Nat.and_le_left ha)

theorem or64 {a b : Nat} (ha : a < 2 ^ 63) (hb : b < 2 ^ 63) : IntKind.i64.wrap (((BitVec.ofInt 64 (a : Int) ||| BitVec.ofInt 64 (b : Int)).toNat : Nat) : Int) = ((a ||| b : Nat) : Int) := by
  rw [BitVec.toNat_or, bv64 (by omega), bv64 (by omega)]
  exact xw64 (Nat.or_lt_two_pow ha hb)

theorem shr64 {a p : Nat} (hp : p < 64) : (a : Int).fdiv (2 ^ min p 64) = ((a >>> p : Nat) : Int) := by
  have e : ((2 : Int) ^ min p 64) = ((2 ^ p : Nat) : Int) := by rw [Nat.min_eq_left (by omega)]; simp
  rw [e, Nat.shiftRight_eq_div_pow, Int.fdiv_eq_ediv_of_nonneg _ (Int.natCast_nonneg _), ← Int.natCast_ediv]

theorem shl64 {p : Nat} (hp : p < 63) : IntKind.i64.wrap (1 * 2 ^ min p 64) = ((2 ^ p : Nat) : Int) := by
  have e : ((2 : Int) ^ min p 64) = ((2 ^ p : Nat) : Int) := by rw [Nat.min_eq_left (by omega)]; simp
  rw [e, Int.one_mul]
  exact xw64 (Nat.pow_lt_pow_right (by omega) hp)

theorem bit64 (a p : Nat) : (((a >>> p &&& 1 : Nat) : Int) == 1) = a.testBit p := by
  rw [Nat.testBit_eq_decide_div_mod_eq, Nat.and_one_is_mod, Nat.shiftRight_eq_div_pow]
  generalize a / 2 ^ p = q
  rw [Bool.eq_iff_iff, beq_iff_eq, decide_eq_true_eq]; omega

theorem shrN (a : Nat) {p : Nat} (hp : p < 64) : shrO .i64 (a : Int) (p : Int) = some (.int .i64 ((a >>> p : Nat) : Int)) := by
  rw [shrO_nn (Int.natCast_nonneg _), Int.toNat_natCast]
  exact congrArg _ (congrArg _ (shr64 hp))

theorem shlN {p : Nat} (hp : p < 63) : shlO .i64 1 (p : Int) = some (.int .i64 ((2 ^ p : Nat) : Int)) := by
  rw [shlO_nn (Int.natCast_nonneg _), Int.toNat_natCast]
  exact congrArg _ (congrArg _ (shl64 hp))

theorem and1N {a : Nat} (ha : a < 2 ^ 63) : andI .i64 (a : Int) 1 = ((a &&& 1 : Nat) : Int) := and64 (b := 1) ha (by omega)

theorem orN {a b : Nat} (ha : a < 2 ^ 63) (hb : b < 2 ^ 63) : orI .i64 (a : Int) (b : Int) = ((a ||| b : Nat) : Int) := or64 ha hb

theorem bitN (a p : Nat) : decide (((a >>> p &&& 1 : Nat) : Int) = 1) = a.testBit p := by
  rw [← bit64]
  rw [Bool.eq_iff_iff, beq_iff_eq, decide_eq_true_eq]

theorem shr_lt {a p : Nat} (ha : a < 2 ^ 63) : a >>> p < 2 ^ 63 := by
  rw [Nat.shiftRight_eq_div_pow]; exact Nat.lt_of_le_of_lt (Nat.div_le_self _ _) ha

/-- May a step not be so, some plates being done? -/
def stepBad (np : Nat) (done : Nat) (x : Step) : Bool := !within 0 ((np : Int) - 1) [x.plate] || !within 1 24 [x.hours] || done.testBit x.plate.toNat

def stepsOk (np : Nat) : Nat → List Step → Bool
  | _, [] => true
  | d, x :: r => if stepBad np d x = true then false else stepsOk np (d ||| 2 ^ x.plate.toNat) r

theorem within_one {a b n : Int} : within a b [n] = true ↔ a ≤ n ∧ n ≤ b := by
  simp [within]

theorem c77 (b : Bath) (l : List Step) (hb : b.plates.length ≤ 62) (hl : l.length ≤ 4294967296) : PC prog 77 [.d b.d, .d (.sl (l.map Step.d))] (.d (.bool (stepsOk b.plates.length 0 l))) := by
  refine PC.run (fun _ => false) tt_ok (fn := f77) (rs := [.tmp 4]) rfl rfl rfl rfl rfl rfl rfl ?_
  simp only [go_sem, Bath.d]
  refine ALoop.by (S := Nat × Nat) (fun s => [(10, .d (.int .i64 s.1)), (9, .d (.int .i64 l.length)), (8, .d (.sl (l.map Step.d))), (5, .d (.int .i64 s.2)), (2, .ptr 0 0)]) (fun s => [.cells [.d (.int .i64 b.str.lo), .d (.int .i64 b.str.hi), .d (.sl (b.plates.map Plate.d))]])
    (fun s => l.length - s.1) (fun s => s.1 ≤ l.length ∧ s.2 < 2 ^ 62 ∧ stepsOk b.plates.length s.2 (l.drop s.1) = stepsOk b.plates.length 0 l) (0, 0) (by simp) (fun _ h => nomatch h) ⟨Nat.zero_le _, by omega, rfl⟩ ?_ ?_
  · exact ForgetTo.same (by simp) (by simp [EWe, Env.look])
  · rintro ⟨i, d⟩ ⟨hi, hd, hx⟩ hn
    simp only at hi hd hx
    refine AWP.run (fun _ => false) tt_ok (fun _ h => nomatch h) (by simp) rfl ?_
    simp only [go_sem]
    refine Br_split (fun hc => ?_) (fun hc => ?_) <;> simp only [go_sem, hc]
    · have hlt : i < l.length := by simpa using hc
      rw [List.drop_eq_getElem_cons hlt] at hx
      simp only [stepsOk] at hx
      have hp1 : IntKind.i64.wrap ((b.plates.length : Int) - 1) = (b.plates.length : Int) - 1 := w64 (by omega) (by omega)
      simp only [go_sem, idx_nat, List.getElem?_map, List.getElem?_eq_getElem hlt, Step.d, hp1]
      refine (c74 0 ((b.plates.length : Int) - 1) [l[i].plate] (by simp)).call rfl rfl rfl ?_
      simp only [go_sem]
      refine Br_split (fun h1 => ?_) (fun h1 => ?_) <;> simp only [go_sem, h1]
      · rw [if_pos (by simp only [stepBad, h1, Bool.true_or])] at hx
        rw [← hx]
      · refine (c74 1 24 [l[i].hours] (by simp)).call rfl rfl rfl ?_
        simp only [go_sem, h1]
        refine Br_split (fun h2 => ?_) (fun h2 => ?_) <;> simp only [go_sem, h1, h2]
        · rw [if_pos (by simp only [stepBad, h2, Bool.true_or, Bool.or_true])] at hx
          rw [← hx]
        · obtain ⟨q, hq⟩ : ∃ q : Nat, l[i].plate = q := ⟨l[i].plate.toNat, by have := within_one.1 (by simpa using h1); omega⟩
          have hq62 : q < 62 := by have := within_one.1 (by simpa using h1); omega
          have hs : (0 : Int) ≤ l[i].plate := by omega
          have hd63 : d < 2 ^ 63 := by omega
          simp only [go_sem, h1, h2, hq, shrN d (show q < 64 by omega), and1N (shr_lt (p := q) hd63), bitN]
          refine Br_split (fun h3 => ?_) (fun h3 => ?_) <;> simp only [go_sem, h1, h2, h3]
          · rw [if_pos (by simp only [stepBad, hq, Int.toNat_natCast, h3, Bool.or_true])] at hx
            rw [← hx]
          · rw [if_neg (by simp only [stepBad, hq, Int.toNat_natCast, h3, h2, Bool.or_false]; rw [← hq, h1]; simp), hq, Int.toNat_natCast] at hx
            have hor : d ||| 2 ^ q < 2 ^ 62 := Nat.or_lt_two_pow hd (Nat.pow_lt_pow_right (by omega) hq62)
            simp only [go_sem, hq, shlN (show q < 63 by omega), orN hd63 (show 2 ^ q < 2 ^ 63 from Nat.pow_lt_pow_right (by omega) (by omega))]
            refine ⟨(i + 1, d ||| 2 ^ q), ⟨hlt, hor, hx⟩, by simp only; omega, ?_⟩
            simp [ForgetTo, EW, VW, BBq, BBs, BB, VBs, VB, Env.look, pubV, w64 (n := (i : Int) + 1) (by omega) (by omega)]
    · have hlt : ¬ i < l.length := by simpa using hc
      have : l.drop i = [] := List.drop_eq_nil_of_le (by omega)
      rw [this] at hx
      simp only [stepsOk] at hx
      rw [← hx]
end Go.Aw
end

section
set_option maxRecDepth 100000
namespace Go.Aw
open Go Go.Proofs.Try

abbrev wr (n : Int) : Int := IntKind.i64.wrap n

theorem c106 (a s : Int) : PC prog 106 [.d (.int .i64 a), .d (.int .i64 s)] (.d (.int .i64 (max 0 (wr (s - a))))) := by
  refine PC.run (fun _ => false) tt_ok (fn := f106) (rs := [.tmp 4]) rfl rfl rfl rfl rfl rfl rfl ?_
  simp only [go_sem]

def Plate.Ok (p : Plate) : Prop := 0 ≤ p.rust.lo ∧ p.rust.lo ≤ p.rust.hi ∧ p.rust.hi ≤ 600 ∧ 0 ≤ p.takes ∧ p.takes ≤ 10 ∧ 0 ≤ p.thin ∧ p.thin ≤ 300

def Bath.Ok (b : Bath) : Prop := 1 ≤ b.str.lo ∧ b.str.lo ≤ b.str.hi ∧ b.str.hi ≤ 40 ∧ b.plates.length ≤ 5 ∧ ∀ p ∈ b.plates, p.Ok

theorem within_two {a b m n : Int} : within a b [m, n] = true ↔ (a ≤ m ∧ m ≤ b) ∧ a ≤ n ∧ n ≤ b := by
  simp [within]

theorem badPlate_iff {p : Plate} : badPlate p = false ↔ p.Ok := by
  have e : badPlate p = false ↔ (within 0 600 [p.rust.lo, p.rust.hi] = true ∧ p.rust.lo ≤ p.rust.hi) ∧ within 0 10 [p.takes] = true ∧ within 0 300 [p.thin] = true := by
    simp only [badPlate, Bool.or_eq_false_iff, Bool.not_eq_false', Bool.and_eq_true, decide_eq_true_eq, and_assoc]
  rw [e, within_two, within_one, within_one, Plate.Ok]
  omega

theorem checkP_iff {b : Bath} : checkP b = 0 ↔ b.Ok := by
  unfold checkP Bath.Ok
  by_cases h1 : (!(within 1 40 [b.str.lo, b.str.hi] && decide (b.str.lo ≤ b.str.hi))) = true
  · rw [if_pos h1]
    simp only [Bool.not_eq_true', Bool.and_eq_false_iff, decide_eq_false_iff_not] at h1
    constructor
    · intro h; cases h
    · rintro ⟨k1, k2, k3, _⟩
      rcases h1 with h1 | h1
      · exact absurd (within_two.2 ⟨⟨k1, by omega⟩, by omega, k3⟩) (by simp [h1])
      · omega
  · rw [if_neg h1]
    simp only [Bool.not_eq_true', Bool.not_eq_false, Bool.and_eq_true, decide_eq_true_eq, within_two] at h1
    by_cases h2 : b.plates.length > 5
    · rw [if_pos h2]
      constructor
      · intro h; cases h
      · rintro ⟨_, _, _, k, _⟩; omega
    · rw [if_neg h2]
      by_cases h3 : b.plates.any badPlate = true
      · rw [if_pos h3]
        constructor
        · intro h; cases h
        · rintro ⟨_, _, _, _, k⟩
          obtain ⟨p, hp, hb⟩ := List.any_eq_true.1 h3
          rw [badPlate_iff.2 (k p hp)] at hb; cases hb
      · rw [if_neg h3]
        refine ⟨fun _ => ⟨h1.1.1.1, h1.2, h1.1.2.2, by omega, fun p hp => badPlate_iff.1 ?_⟩, fun _ => rfl⟩
        cases hb : badPlate p with
        | false => rfl
        | true => exact absurd (List.any_eq_true.2 ⟨p, hp, hb⟩) h3

/-- How strong acid is that fell by so much. -/
def aft (a s : Int) : Int := max 0 (s - a)

def aftS (a : Int) (s : Sp) : Sp := ⟨aft a s.lo, aft a s.hi⟩

theorem c106' {a s : Int} (ha : 0 ≤ a ∧ a ≤ 4611686018427387904) (hs : 0 ≤ s ∧ s ≤ 40) : PC prog 106 [.d (.int .i64 a), .d (.int .i64 s)] (.d (.int .i64 (aft a s))) := by
  have := c106 a s
  rwa [show wr (s - a) = s - a from w64 (by omega) (by omega)] at this

theorem c78 {a : Int} {s : Sp} (ha : 0 ≤ a ∧ a ≤ 4611686018427387904) (hs : 0 ≤ s.lo ∧ s.lo ≤ 40 ∧ 0 ≤ s.hi ∧ s.hi ≤ 40) : PC prog 78 [.d (.int .i64 a), .d s.d] (.d (aftS a s).d) := by
  refine PC.run (fun _ => false) tt_ok (fn := f78) (rs := [.cell 4 23]) rfl rfl rfl rfl rfl rfl rfl ?_
  simp only [go_sem, Sp.d]
  refine ADrw.treeG (fun _ => false) tt_ok (by kernel_rfl) (fun k => if k = 2 ∨ k = 6 then some .L else if k = 9 then some .W else some .S) (.ones [0, 1, 2, 3, 4, 5, 6, 7, 8, 9] .done) (by simp) (fun _ h => nomatch h) rfl rfl (by kernel_rfl) ?_
  simp only [go_sem]
  refine (c106' ha ⟨hs.1, hs.2.1⟩).callS rfl rfl rfl rfl rfl rfl ?_
  simp only [go_sem]
  refine (c106' ha ⟨hs.2.2.1, hs.2.2.2⟩).callS rfl rfl rfl rfl rfl rfl ?_
  simp only [go_sem, aftS]

theorem c76 (b : Bath) (hl : b.plates.length ≤ 4294967296) : PC prog 76 [.d b.d] (.tup [.d b.d, .d (.int .i64 (checkP b))]) := by
  refine PC.run (fun _ => false) tt_ok (fn := f76) (rs := [.cell 2 132, .tmp 3]) rfl rfl rfl rfl rfl rfl rfl ?_
  simp only [go_sem, Bath.d]
  refine ADrw.treeG (fun _ => false) tt_ok (by kernel_rfl) (fun k => if k = 0 ∨ k = 2 then some .L else if k = 4 then some .W else some .S) (.ones [0, 1, 2, 3, 4, 5] .done) (by simp) (fun _ h => nomatch h) rfl rfl (by kernel_rfl) ?_
  simp only [go_sem]
  refine (c19 b hl).callS rfl rfl rfl rfl rfl rfl ?_
  simp only [go_sem]

/-- A plate of a bath. -/
def Bath.pl (b : Bath) (p : Int) : Plate := b.plates.getD p.toNat ⟨⟨0, 0⟩, 0, 0⟩

/-- How much acid falls by plates. -/
def fellF (b : Bath) (l : List Int) : Int := (l.map fun p => (b.pl p).takes).sum

theorem Bath.Ok.pl {b : Bath} (h : b.Ok) (p : Int) : (b.pl p).Ok := by
  unfold Bath.pl
  rw [List.getD_eq_getElem?_getD]
  cases e : b.plates[p.toNat]? with
  | none => exact ⟨by decide, by decide, by decide, by decide, by decide, by decide, by decide⟩
  | some x => exact h.2.2.2.2 x (List.mem_of_getElem? e)

theorem fellF_le {b : Bath} (h : b.Ok) : ∀ l : List Int, 0 ≤ fellF b l ∧ fellF b l ≤ 10 * l.length
  | [] => by simp [fellF]
  | p :: l => by
    have := fellF_le h l
    have := (h.pl p)
    simp only [fellF, List.map_cons, List.sum_cons, List.length_cons, Plate.Ok] at *
    omega

theorem fellF_take {b : Bath} {l : List Int} {i : Nat} (h : i < l.length) : fellF b (l.take (i + 1)) = fellF b (l.take i) + (b.pl l[i]).takes := by
  rw [List.take_succ_eq_append_getElem h]
  simp only [fellF, List.map_append, List.sum_append, List.map_cons, List.map_nil, List.sum_cons, List.sum_nil, Int.add_zero]

theorem stepsOk_mem {np : Nat} : ∀ {d : Nat} {l : List Step}, stepsOk np d l = true → ∀ x ∈ l, (0 ≤ x.plate ∧ x.plate < np) ∧ 1 ≤ x.hours ∧ x.hours ≤ 24
  | d, [], _, x, hx => by simp at hx
  | d, y :: r, h, x, hx => by
    simp only [stepsOk] at h
    split at h
    · cases h
    · rename_i hb
      simp only [stepBad, Bool.or_eq_true, Bool.not_eq_true', not_or, Bool.not_eq_false, within_one] at hb
      rcases List.mem_cons.1 hx with rfl | hx
      · exact ⟨⟨hb.1.1.1, by omega⟩, hb.1.2⟩
      · exact stepsOk_mem h x hx

theorem Bath.at {b : Bath} {p : Int} (h : 0 ≤ p ∧ p < b.plates.length) : idx? (b.plates.map Plate.d) p = some (b.pl p).d := by
  obtain ⟨q, rfl⟩ : ∃ q : Nat, p = q := ⟨p.toNat, by omega⟩
  have hq : q < b.plates.length := by omega
  rw [idx_nat, List.getElem?_map, List.getElem?_eq_getElem hq]
  simp [Bath.pl, List.getD_eq_getElem?_getD, List.getElem?_eq_getElem hq]

end Go.Aw
end

section
set_option maxRecDepth 100000
namespace Go.Aw
open Go Go.Proofs.Try

/-- A slice that is filled one by one. -/
def fillD {α : Type} (f : α → D) (z : D) (l : List α) (i : Nat) : List D := (l.take i).map f ++ List.replicate (l.length - i) z

theorem fillD_len {α : Type} (f : α → D) (z : D) (l : List α) {i : Nat} (hi : i ≤ l.length) : (fillD f z l i).length = l.length := by
  simp [fillD]; omega

theorem fillD_set {α : Type} (f : α → D) (z : D) (l : List α) {i : Nat} (hi : i < l.length) : (fillD f z l i).set i (f l[i]) = fillD f z l (i + 1) := by
  unfold fillD
  have hlen : ((l.take i).map f).length = i := by simp; omega
  rw [List.set_append_right _ _ (by omega), hlen, Nat.sub_self, show l.length - i = (l.length - (i + 1)) + 1 by omega, List.replicate_succ, List.set_cons_zero, List.take_succ_eq_append_getElem hi, List.map_append, List.append_assoc]
  rfl

theorem fillD_get {α : Type} (f : α → D) (z : D) (l : List α) {i : Nat} (hi : i < l.length) : (fillD f z l i)[i]? = some z := by
  unfold fillD
  have hlen : ((l.take i).map f).length = i := by simp; omega
  rw [List.getElem?_append_right (by omega), hlen, Nat.sub_self, List.getElem?_replicate]
  simp; omega

theorem fillD_all {α : Type} (f : α → D) (z : D) (l : List α) : fillD f z l l.length = l.map f := by simp [fillD]

/-- Steps of an hour each. -/
def ones (l : List Int) : List Step := l.map fun p => ⟨p, 1⟩

def strengthsL (b : Bath) (l : List Int) (n : Nat) : List Sp := (List.range n).map fun i => aftS (fellF b (l.take i)) b.str

def strengthsP (b : Bath) (l : List Int) : List Sp × Int :=
  if checkP b = 0 then (if stepsOk b.plates.length 0 (ones l) = true then (strengthsL b l (l.length + 1), 0) else ([], 4)) else ([], checkP b)

theorem strengthsL_succ (b : Bath) (l : List Int) (n : Nat) : strengthsL b l (n + 1) = strengthsL b l n ++ [aftS (fellF b (l.take n)) b.str] := by
  simp [strengthsL, List.range_succ]

theorem strengthsL_len (b : Bath) (l : List Int) (n : Nat) : (strengthsL b l n).length = n := by simp [strengthsL]

theorem aftS_bound {a : Int} {s : Sp} (ha : 0 ≤ a) (h : 1 ≤ s.lo ∧ s.lo ≤ s.hi ∧ s.hi ≤ 40) : 0 ≤ (aftS a s).lo ∧ (aftS a s).lo ≤ 40 ∧ 0 ≤ (aftS a s).hi ∧ (aftS a s).hi ≤ 40 := by
  simp only [aftS, aft]; omega

theorem c20 (b : Bath) (l : List Int) (hb : b.plates.length ≤ 4294967296) (hl : l.length ≤ 1000) : PC prog 20 [.d b.d, .d (.sl (l.map (.int .i64)))] (.tup [.d (.sl ((strengthsP b l).1.map Sp.d)), .d (.int .i64 (strengthsP b l).2)]) := by
  refine PC.run (fun k => k == 4 || k == 23) tt_ok (fn := f20) (rs := [.tmp 4, .tmp 5]) rfl rfl rfl rfl rfl rfl rfl ?_
  simp only [go_sem, Bath.d]
  refine (c76 b hb).call rfl rfl rfl ?_
  simp only [go_sem, Bath.d]
  refine Br_split (fun hc => ?_) (fun hc => ?_) <;> simp only [go_sem, hc]
  · have h0 : ¬ checkP b = 0 := by simpa using hc
    simp [strengthsP, h0]
  · have h0 : checkP b = 0 := by simpa using hc
    have hok := checkP_iff.1 h0
    have hok' := hok
    obtain ⟨s1, s2, s3, hb5, _⟩ := hok'
    have m1 : (0 : Int) ≤ (l.length : Int) := by omega
    have m2 : (l.length : Int) ≤ 4294967296 := by omega
    simp only [go_sem, m1, m2, Int.toNat_natCast, hasSl, dcells, List.any_cons, List.any_nil]
    refine ALoop.by (S := Nat) (fun i => [(26, .d (.int .i64 i)), (25, .d (.int .i64 l.length)), (24, .d (.sl (l.map (.int .i64)))), (8, .d (.int .i64 0)), (7, .ref 3 l.length 0 l.length), (6, .ptr 2 0), (4, .ref 1 0 0 0), (1, .d (.sl (l.map (.int .i64))))])
      (fun i => [.cells [.d (.int .i64 b.str.lo), .d (.int .i64 b.str.hi), .d (.sl (b.plates.map Plate.d))], .arr 2 true [], .cells [.d (.int .i64 b.str.lo), .d (.int .i64 b.str.hi), .d (.sl (b.plates.map Plate.d))], .arr 2 false (fillD (fun p => Step.d ⟨p, 1⟩) (.agg [.int .i64 0, .int .i64 0]) l i)])
      (fun i => l.length - i) (fun i => i ≤ l.length) 0 (by simp) (fun _ h => nomatch h) (Nat.zero_le _) ?_ ?_
    · exact ForgetTo.same' (by simp) (by simp [EWe, Env.look]) (by simp [fillD])
    rintro i hi hn
    refine AWP.run (fun k => k == 4 || k == 23) tt_ok (fun _ h => nomatch h) (by simp) rfl ?_
    simp only [go_sem]
    refine Br_split (fun hd => ?_) (fun hd => ?_) <;> simp only [go_sem, hd]
    · have hlt : i < l.length := by simpa using hd
      have c2 : (i : Int) < (l.length : Int) := by omega
      have c3 : (0 : Int) ≤ (i : Int) := by omega
      simp only [go_sem, idx_nat, List.getElem?_map, List.getElem?_eq_getElem hlt, fillD_len _ _ l hi, fillD_get _ _ l hlt, c2, c3, Int.toNat_natCast]
      refine ⟨i + 1, hlt, by omega, ?_⟩
      exact ForgetTo.same' (by simp) (by simp [EWe, Env.look, w64 (n := (i : Int) + 1) (by omega) (by omega)]) (by rw [← fillD_set _ _ l hlt]; rfl)
    · have hil : i = l.length := by have : ¬ i < l.length := by simpa using hd
                                    omega
      subst hil
      rw [fillD_all]
      have hones : (ones l).map Step.d = l.map (fun p => Step.d ⟨p, 1⟩) := by simp [ones]
      have htk : (l.map fun p => Step.d ⟨p, 1⟩).take l.length = l.map fun p => Step.d ⟨p, 1⟩ := List.take_of_length_le (by simp)
      have hon : (ones l).length = l.length := by simp [ones]
      refine (c77 b (ones l) (by omega) (by omega)).callL rfl (by simp [pubVs, pubV, dz, hones, Bath.d, htk]) rfl ?_
      simp only [go_sem]
      refine Br_split (fun h2 => ?_) (fun h2 => ?_) <;> simp only [go_sem, h2]
      · have h2' : ¬ stepsOk b.plates.length 0 (ones l) = true := by simpa using h2
        simp [strengthsP, h0, h2']
      · have h2' : stepsOk b.plates.length 0 (ones l) = true := by simpa using h2
        have hmem : ∀ p ∈ l, 0 ≤ p ∧ p < b.plates.length := fun p hp => (stepsOk_mem h2' ⟨p, 1⟩ (List.mem_map.2 ⟨p, hp, rfl⟩)).1
        refine ALoop.by (S := Nat) (fun i => [(43, .d (.int .i64 i)), (42, .d (.int .i64 l.length)), (41, .d (.sl (l.map (.int .i64)))), (8, .d (.int .i64 (fellF b (l.take i)))), (6, .ptr 2 0), (4, .ref 1 i 0 i)])
          (fun i => [.cells [.d (.int .i64 b.str.lo), .d (.int .i64 b.str.hi), .d (.sl (b.plates.map Plate.d))], .arr 2 (decide (i = 0)) ((strengthsL b l i).map Sp.d), .cells [.d (.int .i64 b.str.lo), .d (.int .i64 b.str.hi), .d (.sl (b.plates.map Plate.d))]])
          (fun i => l.length - i) (fun i => i ≤ l.length) 0 (by simp) (fun _ h => nomatch h) (Nat.zero_le _) ?_ ?_
        · simp [ForgetTo, EW, VW, BBq, BBs, BB, VBs, VB, Env.look, pubV, fellF, strengthsL]
        rintro i hi hn
        refine AWP.run (fun k => k == 4 || k == 23) tt_ok (fun _ h => nomatch h) (by simp) rfl ?_
        simp only [go_sem]
        have hfe := fellF_le hok (l.take i)
        have hfi : (l.take i).length ≤ 1000 := by simp; omega
        have hspan := c78 (a := fellF b (l.take i)) (s := b.str) (by omega) (by omega)
        refine Br_split (fun hd => ?_) (fun hd => ?_) <;> simp only [go_sem, hd]
        · have hlt : i < l.length := by simpa using hd
          simp only [go_sem, idx_nat, List.getElem?_map, List.getElem?_eq_getElem hlt]
          refine hspan.call rfl rfl rfl ?_
          have hp := hmem _ (List.getElem_mem hlt)
          have hpl := hok.pl l[i]
          simp only [Plate.Ok] at hpl
          have hsl := strengthsL_len b l i
          have hi' : i + 1 ≤ 4294967296 := by omega
          simp only [go_sem, Sp.d, hsl, Bath.at hp, Plate.d, hi', show fellF b (l.take i) + (b.pl l[i]).takes = fellF b (l.take (i + 1)) from (fellF_take hlt).symm]
          refine ⟨i + 1, hlt, by omega, ?_⟩
          have hfe' := fellF_le hok (l.take (i + 1))
          have hfi' : (l.take (i + 1)).length ≤ 1000 := by simp; omega
          exact ForgetTo.same' (by simp) (by simp [EWe, Env.look, w64 (n := (i : Int) + 1) (by omega) (by omega), w64 (n := fellF b (l.take (i + 1))) (by omega) (by omega)]) (by simp [strengthsL_succ, Sp.d])
        · have hil : i = l.length := by have : ¬ i < l.length := by simpa using hd
                                        omega
          subst hil
          refine hspan.call rfl rfl rfl ?_
          have hsl := strengthsL_len b l l.length
          have hi' : l.length + 1 ≤ 4294967296 := by omega
          rw [List.take_length]
          have htk2 : ∀ x, (List.map Sp.d (strengthsL b l l.length) ++ [x]).take (l.length + 1) = List.map Sp.d (strengthsL b l l.length) ++ [x] := fun x => List.take_of_length_le (by simp [hsl])
          simp only [go_sem, Sp.d, hsl, hi', htk2, List.length_append]
          simp [strengthsP, h0, h2', strengthsL_succ, Sp.d]
end Go.Aw
end

section
set_option maxRecDepth 100000
namespace Go.Aw
open Go Go.Proofs.Try

theorem c139 (n : Int) : PC prog 139 [.d (.int .i64 n)] (.d (.bool false)) := by
  refine PC.run (fun _ => false) tt_ok (fn := f139) (rs := [.tmp 2]) rfl rfl rfl rfl rfl rfl rfl ?_
  simp only [go_sem]

def ltI (x y : Int) : Bool := decide (x < y)

theorem c129 (x y : Int) : PC prog 129 [.d (.int .i64 x), .d (.int .i64 y)] (.d (.bool (ltI x y))) := by
  refine PC.run (fun _ => false) tt_ok (fn := f129) (rs := [.tmp 4]) rfl rfl rfl rfl rfl rfl rfl ?_
  simp only [go_sem]
  refine (c139 x).call rfl rfl rfl ?_
  simp only [go_sem, ltI]

theorem getD_eq {l : List Int} {i : Nat} (h : i < l.length) : l.getD i 0 = l[i] := by
  rw [List.getD_eq_getElem?_getD, List.getElem?_eq_getElem h]; rfl

/-- An element sinks to its place. -/
def sink (lt : Int → Int → Bool) : Nat → List Int → List Int
  | 0, l => l
  | j + 1, l => if lt (l.getD (j + 1) 0) (l.getD j 0) = true then sink lt j ((l.set (j + 1) (l.getD j 0)).set j (l.getD (j + 1) 0)) else l

theorem sink_len (lt : Int → Int → Bool) : ∀ (j : Nat) (l : List Int), (sink lt j l).length = l.length
  | 0, _ => rfl
  | j + 1, l => by
    simp only [sink]
    split
    · rw [sink_len lt j]; simp
    · rfl

def isortI (lt : Int → Int → Bool) (l : List Int) (i : Nat) : List Int := (List.range i).foldl (fun l i => sink lt (i + 1) l) l

theorem isortI_succ (lt : Int → Int → Bool) (l : List Int) (i : Nat) : isortI lt l (i + 1) = sink lt (i + 1) (isortI lt l i) := by
  rw [isortI, List.range_succ, List.foldl_append]; rfl

theorem isortI_len (lt : Int → Int → Bool) (l : List Int) : ∀ i, (isortI lt l i).length = l.length
  | 0 => rfl
  | i + 1 => by rw [isortI_succ, sink_len, isortI_len lt l i]

def rowB (l : List Int) : Blk := .arr 1 false (l.map (.int .i64))

theorem c123 {H : Heap} {id n : Nat} {l : List Int} (hid : id < H.length) (hl : l.length = n) (hn : n ≤ 1000)
    {Q : V → Heap → Prop} (hq : Q (.tup []) (H.set id (rowB (isortI ltI l (n - 1))))) : ACalls prog 123 [.ref id n 0 n, .d (.int .i64 0), .d (.int .i64 n)] (H.set id (rowB l)) Q := by
  have hg : ∀ b : Blk, (H.set id b)[id]? = some b := fun b => by rw [List.getElem?_set_self hid]
  have hs : ∀ b b' : Blk, (H.set id b).set id b' = H.set id b' := fun b b' => by rw [List.set_set]
  have hHl : ∀ b : Blk, (H.set id b).length = H.length := fun b => by simp
  refine ACalls.run (fun _ => false) tt_ok (fn := f123) (rs := []) rfl rfl rfl rfl rfl rfl rfl ?_
  simp only [go_sem, hHl]
  refine ALoop.by (S := Nat) (fun i => [(6, .d (.int .i64 ((i + 1 : Nat)))), (0, .ref id n 0 n), (1, .d (.int .i64 0)), (2, .d (.int .i64 n))]) (fun i => H.set id (rowB (isortI ltI l i))) (fun i => n - i) (fun i => i + 1 ≤ n ∨ i = 0) 0 (by simp) (fun _ h => nomatch h) (.inr rfl) ?_ ?_
  · exact ForgetTo.same (by simp) (by simp [EWe, Env.look, w64 (n := 1) (by omega) (by omega)])
  · rintro i hi hn'
    have hil : (isortI ltI l i).length = n := by rw [isortI_len, hl]
    refine AWP.run (fun _ => false) tt_ok (fun _ h => nomatch h) (by simp) rfl ?_
    simp only [go_sem, hHl]
    refine Br_split (fun hd => ?_) (fun hd => ?_) <;> simp only [go_sem, hd]
    · have hlt1 : i + 1 < n := by simpa [-Int.natCast_add] using hd
      refine ALoop.by (S := Nat × List Int) (fun s => [(7, .d (.int .i64 s.1)), (6, .d (.int .i64 ((i + 1 : Nat)))), (0, .ref id n 0 n), (1, .d (.int .i64 0)), (2, .d (.int .i64 n))]) (fun s => H.set id (rowB s.2)) (fun s => s.1)
        (fun s => s.1 < n ∧ s.2.length = n ∧ sink ltI s.1 s.2 = sink ltI (i + 1) (isortI ltI l i)) (i + 1, isortI ltI l i) (by simp) (fun _ h => nomatch h) ⟨hlt1, hil, rfl⟩ ?_ ?_
      · exact ForgetTo.same (by simp) (by simp [EWe, Env.look])
      · rintro ⟨j, l'⟩ ⟨hj, hl', hsk⟩ hn2
        simp only at hj hl' hsk hn2 ⊢
        have next : sink ltI j l' = l' → ∃ s', (s' + 1 ≤ n ∨ s' = 0) ∧ n - s' < n - i ∧ s' = i + 1 ∧ isortI ltI l s' = l' := fun h => ⟨i + 1, by omega, by omega, rfl, by rw [isortI_succ, ← hsk, h]⟩
        refine AWP.run (fun _ => false) tt_ok (fun _ h => nomatch h) (by simp) rfl ?_
        simp only [go_sem, hHl]
        refine ADrw.treeG (fun _ => false) tt_ok (by kernel_rfl) (fun k => if k = 6 ∨ k = 7 ∨ k = 11 ∨ k = 12 then some .L else some .S) (.ones [0, 1, 2, 3, 4, 5, 6, 7, 8, 9, 10, 11, 12, 13, 14] .done) (by simp) (fun _ h => nomatch h) rfl rfl (by kernel_rfl) ?_
        cases j with
        | zero =>
          have h0 : decide (((0 : Nat) : Int) > 0) = false := rfl
          simp only [go_sem, hHl, h0]
          obtain ⟨s', g1, g2, rfl, g3⟩ := next rfl
          refine ⟨i + 1, g1, g2, ?_⟩
          rw [g3]
          exact ForgetTo.same (by simp) (by simp [EWe, Env.look, w64 (n := (i : Int) + 1 + 1) (by omega) (by omega)])
        | succ j =>
          have h0 : decide (((j + 1 : Nat) : Int) > 0) = true := decide_eq_true (by omega)
          have hw : IntKind.i64.wrap (((j + 1 : Nat) : Int) - 1) = ((j : Nat) : Int) := by rw [w64 (by omega) (by omega)]; omega
          have c1 : (0 : Int) ≤ ((j + 1 : Nat) : Int) := by omega
          have c2 : ((j + 1 : Nat) : Int) < (n : Int) := by omega
          have c3 : (0 : Int) ≤ ((j : Nat) : Int) := by omega
          have c4 : ((j : Nat) : Int) < (n : Int) := by omega
          have hj1 : j + 1 < l'.length := by omega
          have hj0 : j < l'.length := by omega
          simp only [go_sem, hHl, hg, h0, rowB, hl', hw, c1, c2, c3, c4, Int.toNat_natCast, List.getElem?_map, List.getElem?_eq_getElem hj1, List.getElem?_eq_getElem hj0]
          refine (c129 l'[j + 1] l'[j]).callS rfl rfl rfl rfl rfl rfl ?_
          simp only [go_sem, hHl, hg, h0]
          have hsk' : sink ltI (j + 1) l' = if ltI l'[j + 1] l'[j] = true then sink ltI j ((l'.set (j + 1) l'[j]).set j l'[j + 1]) else l' := by simp only [sink, getD_eq hj1, getD_eq hj0]
          refine Br_split (fun h2 => ?_) (fun h2 => ?_) <;> simp only [go_sem, hHl, hg, h0, h2]
          · rw [h2, if_pos rfl] at hsk'
            refine ADrw.treeG (fun _ => false) tt_ok (by kernel_rfl) (fun k => if k = 8 ∨ k = 9 ∨ k = 12 ∨ k = 13 ∨ k = 14 ∨ k = 16 then some .L else if k = 15 ∨ k = 17 then some .W else some .S) (.ones [0, 1, 2, 3, 4, 5, 6, 7, 8, 9, 10, 11, 12, 13, 14, 15, 16, 17] .done) (by simp) (fun _ h => nomatch h) rfl rfl (by kernel_rfl) ?_
            simp only [go_sem, hHl, hg, hs, h0, rowB, hl', hw, c1, c2, c3, c4, Int.toNat_natCast, List.getElem?_map, List.getElem?_eq_getElem hj1, List.getElem?_eq_getElem hj0, List.length_set, List.getElem?_set_ne, ne_eq, Nat.succ_ne_self, not_false_eq_true]
            refine ⟨(j, (l'.set (j + 1) l'[j]).set j l'[j + 1]), ⟨by simp only; omega, by simp [hl'], by simp only; rw [← hsk', hsk]⟩, by simp only; omega, ?_⟩
            exact ForgetTo.same' (by simp) (by simp [EWe, Env.look]) (by simp [List.map_set])
          · rw [h2, if_neg (by simp)] at hsk'
            obtain ⟨s', g1, g2, rfl, g3⟩ := next hsk'
            refine ⟨i + 1, g1, g2, ?_⟩
            rw [g3]
            exact ForgetTo.same (by simp) (by simp [EWe, Env.look, w64 (n := (i : Int) + 1 + 1) (by omega) (by omega)])
    · have hlt : ¬ i + 1 < n := by simpa [-Int.natCast_add] using hd
      have hi' : i = n - 1 := by omega
      subst hi'
      refine ⟨.inl (by simp), ?_⟩
      rw [List.take_of_length_le (by simp)]
      exact hq

theorem aindex_byte {T : Nat → Ty} {z s : ByteArray} {k : IntKind} {n : Int} {b : UInt8} (h0 : 0 ≤ n) (h : s[n.toNat]? = some b) : aindex T (.sc (.str z)) (.d (.str s)) (.d (.int k n)) = some (.d (.int .u8 b.toNat)) := by
  simp [aindex, h0, h]

theorem c133 {n : Nat} (hn : n ≤ 3) : PC prog 133 [.d (.int .u64 n)] (.d (.int .i64 (([0, 1, 2, 2] : List Int).getD n 0))) := by
  have h0 : decide ((4294967296 : Int) ≤ (n : Int)) = false := by simp; omega
  have h1 : decide ((65536 : Int) ≤ (n : Int)) = false := by simp; omega
  have h2 : decide ((256 : Int) ≤ (n : Int)) = false := by simp; omega
  have hw : IntKind.u8.wrap (n : Int) = n := by
    simp [IntKind.wrap, IntKind.bits, IntKind.signed]; omega
  refine PC.run (fun _ => false) tt_ok (fn := f133) (rs := [.tmp 2]) rfl rfl rfl rfl rfl rfl rfl ?_
  simp only [go_sem, h0, h1, h2, hw]
  have key : ∀ m : Nat, m ≤ 3 → m = 0 ∨ m = 1 ∨ m = 2 ∨ m = 3 := by omega
  rcases key n hn with rfl | rfl | rfl | rfl
  · rw [aindex_byte (b := 0) (by omega) (by kernel_rfl)]
    simp only [go_sem]
    rfl
  · rw [aindex_byte (b := 1) (by omega) (by kernel_rfl)]
    simp only [go_sem]
    rfl
  · rw [aindex_byte (b := 2) (by omega) (by kernel_rfl)]
    simp only [go_sem]
    rfl
  · rw [aindex_byte (b := 2) (by omega) (by kernel_rfl)]
    simp only [go_sem]
    rfl

theorem c121 {n : Nat} (hn : n ≤ 3) : PC prog 121 [.d (.int .u64 n)] (.d (.int .i64 (([0, 1, 2, 2] : List Int).getD n 0))) := by
  refine PC.run (fun _ => false) tt_ok (fn := f121) (rs := [.tmp 2]) rfl rfl rfl rfl rfl rfl rfl ?_
  simp only [go_sem]
  refine (c133 hn).call rfl rfl rfl ?_
  simp only [go_sem]

theorem c120 {H : Heap} {id n : Nat} {l : List Int} {lim : Int} (hid : id < H.length) (hl : l.length = n) (hn : n ≤ 12)
    {Q : V → Heap → Prop} (hq : Q (.tup []) (H.set id (rowB (isortI ltI l (n - 1))))) : ACalls prog 120 [.ref id n 0 n, .d (.int .i64 0), .d (.int .i64 n), .d (.int .i64 lim)] (H.set id (rowB l)) Q := by
  refine ACalls.run (fun _ => false) tt_ok (fn := f120) (rs := []) rfl rfl rfl rfl rfl rfl rfl ?_
  have h12 : decide ((n : Int) ≤ 12) = true := by simp; omega
  simp only [go_sem]
  refine ALoop.by (S := Unit) (fun _ => [(9, .d (.bool true)), (8, .d (.bool true)), (3, .d (.int .i64 lim)), (2, .d (.int .i64 n)), (1, .d (.int .i64 0)), (0, .ref id n 0 n)]) (fun _ => H.set id (rowB l)) (fun _ => 0) (fun _ => True) () (by simp) (fun _ h => nomatch h) trivial ?_ ?_
  · exact ForgetTo.same (by simp) (by simp [EWe, Env.look])
  rintro _ _ hn'
  refine AWP.run (fun _ => false) tt_ok (fun _ h => nomatch h) (by simp) rfl ?_
  simp only [go_sem, Int.sub_zero, w64 (n := (n : Int)) (by omega) (by omega), h12]
  refine ACallV.of rfl (c123 hid hl (by omega) ?_)
  simp only [go_sem]
  refine ⟨.inl (by simp), ?_⟩
  rw [List.take_of_length_le (by simp)]
  exact hq

theorem c108 {H : Heap} {id n : Nat} {l : List Int} (hid : id < H.length) (hl : l.length = n) (hn : n ≤ 3)
    {Q : V → Heap → Prop} (hq : Q (.tup []) (H.set id (rowB (isortI ltI l (n - 1))))) : ACalls prog 108 [.ref id n 0 n] (H.set id (rowB l)) Q := by
  have hg : (H.set id (rowB l))[id]? = some (.arr 1 false (l.map (.int .i64))) := by rw [List.getElem?_set_self hid]; rfl
  have hw : IntKind.u64.wrap (n : Int) = n := by
    simp [IntKind.wrap, IntKind.bits, IntKind.signed]; omega
  refine ACalls.run (fun _ => false) tt_ok (fn := f108) (rs := []) rfl rfl rfl rfl rfl rfl rfl ?_
  simp only [go_sem, hg, hl, hw]
  refine (c121 hn).call rfl rfl rfl ?_
  simp only [go_sem]
  refine ACallV.of rfl (c120 hid hl (by omega) ?_)
  simp only [go_sem]
  refine ⟨.inl (by simp), ?_⟩
  rw [List.take_of_length_le (by simp)]
  exact hq
end Go.Aw
end

section
set_option maxRecDepth 100000
namespace Go.Aw
open Go Go.Proofs.Try

/-- How a plate comes out. -/
def howP (p : Plate) (rust loses : Int) : Int := if loses < rust then 1 else if loses > rust + p.thin then 3 else 2

theorem c107 {p : Plate} {rust loses : Int} (hp : p.Ok) (hr : 0 ≤ rust ∧ rust ≤ 600) : PC prog 107 [.d p.d, .d (.int .i64 rust), .d (.int .i64 loses)] (.d (.int .i64 (howP p rust loses))) := by
  refine PC.run (fun _ => false) tt_ok (fn := f107) (rs := [.tmp 6]) rfl rfl rfl rfl rfl rfl rfl ?_
  have hp' := hp
  simp only [Plate.Ok] at hp'
  have hw : IntKind.i64.wrap (rust + p.thin) = rust + p.thin := w64 (by omega) (by omega)
  simp only [go_sem, Plate.d, hw]
  refine Br_split (fun h1 => ?_) (fun h1 => ?_) <;> simp only [go_sem, h1, hw]
  · have h1' : loses < rust := by simpa using h1
    simp [howP, h1']
  · have h1' : ¬ loses < rust := by simpa using h1
    refine Br_split (fun h2 => ?_) (fun h2 => ?_) <;> simp only [go_sem, h2]
    · have h2' : loses > rust + p.thin := by simpa using h2
      simp [howP, h1', h2']
    · have h2' : ¬ loses > rust + p.thin := by simpa using h2
      simp [howP, h1', h2']

/-- A map whose keys are integers, and whose values are true. -/
def mapOf (M : List Int) : List (D × D) := M.map fun k => (.int .i64 k, .bool true)

def insM (M : List Int) (k : Int) : List Int := if k ∈ M then M else M ++ [k]

theorem mput_mapOf (k : Int) : ∀ M : List Int, mput (.int .i64 k) (.bool true) (mapOf M) = some (mapOf (insM M k))
  | [] => rfl
  | a :: M => by
    simp only [mapOf, List.map_cons, mput, keq, if_true]
    by_cases h : k = a
    · subst h
      simp [insM]
    · have hb : (k == a) = false := by simpa using h
      have ih := mput_mapOf k M
      simp only [mapOf] at ih
      simp only [hb, ih]
      unfold insM
      by_cases hm : k ∈ M
      · simp [hm]
      · have : k ∉ a :: M := by simp [h, hm]
        simp [hm, this]

theorem mapOf_len (M : List Int) : (mapOf M).length = M.length := by simp [mapOf]

theorem insM_mem {M : List Int} {k x : Int} : x ∈ insM M k ↔ x ∈ M ∨ x = k := by
  unfold insM
  split
  · rename_i h
    constructor
    · exact fun hx => .inl hx
    · rintro (hx | rfl)
      · exact hx
      · exact h
  · simp

theorem insM_nodup {M : List Int} {k : Int} (h : M.Nodup) : (insM M k).Nodup := by
  unfold insM
  split
  · exact h
  · rename_i hk
    rw [List.nodup_append]
    refine ⟨h, by simp, fun a ha b hb => ?_⟩
    simp at hb; subst hb
    intro e; subst e; exact hk ha

/-- The ways that are possible with a strength. -/
def stepM (p : Plate) (M : List Int) (loses : Int) : List Int :=
  if (decide (loses ≥ p.rust.lo) && decide (loses ≤ p.rust.hi + p.thin)) = true then insM (insM (insM M (howP p p.rust.lo loses)) (howP p p.rust.hi loses)) 2
  else insM (insM M (howP p p.rust.lo loses)) (howP p p.rust.hi loses)

def losesAt (b : Bath) (x : Step) (fell : Int) (i : Nat) : Int := aft fell (b.str.lo + i) * x.hours

def canM (b : Bath) (x : Step) (fell : Int) (n : Nat) : List Int := (List.range n).foldl (fun M i => stepM (b.pl x.plate) M (losesAt b x fell i)) []

theorem canM_succ (b : Bath) (x : Step) (fell : Int) (n : Nat) : canM b x fell (n + 1) = stepM (b.pl x.plate) (canM b x fell n) (losesAt b x fell n) := by
  rw [canM, List.range_succ, List.foldl_append]; rfl

def nStr (b : Bath) : Nat := (b.str.hi - b.str.lo + 1).toNat

/-- The ways in which a plate comes out. -/
def waysL (b : Bath) (x : Step) (fell : Int) : List Int := [1, 2, 3].filter fun h => (canM b x fell (nStr b)).contains h

theorem howP_in (p : Plate) (rust loses : Int) : howP p rust loses = 1 ∨ howP p rust loses = 2 ∨ howP p rust loses = 3 := by
  unfold howP; split
  · simp
  · split <;> simp

theorem stepM_nodup {p : Plate} {M : List Int} {l : Int} (h : M.Nodup) : (stepM p M l).Nodup := by
  unfold stepM; split
  · exact insM_nodup (insM_nodup (insM_nodup h))
  · exact insM_nodup (insM_nodup h)

theorem stepM_in {p : Plate} {M : List Int} {l : Int} (h : ∀ x ∈ M, x = 1 ∨ x = 2 ∨ x = 3) : ∀ x ∈ stepM p M l, x = 1 ∨ x = 2 ∨ x = 3 := by
  intro x hx
  unfold stepM at hx
  have k1 := howP_in p p.rust.lo l
  have k2 := howP_in p p.rust.hi l
  split at hx
  · rw [insM_mem, insM_mem, insM_mem] at hx
    rcases hx with ((hx | rfl) | rfl) | rfl
    · exact h x hx
    · exact k1
    · exact k2
    · simp
  · rw [insM_mem, insM_mem] at hx
    rcases hx with (hx | rfl) | rfl
    · exact h x hx
    · exact k1
    · exact k2

theorem canM_ok (b : Bath) (x : Step) (fell : Int) : ∀ n, (canM b x fell n).Nodup ∧ ∀ h ∈ canM b x fell n, h = 1 ∨ h = 2 ∨ h = 3
  | 0 => ⟨by simp [canM], by simp [canM]⟩
  | n + 1 => by
    rw [canM_succ]
    exact ⟨stepM_nodup (canM_ok b x fell n).1, stepM_in (canM_ok b x fell n).2⟩

theorem stepM_ne {p : Plate} {M : List Int} {l : Int} : stepM p M l ≠ [] := by
  intro h
  have : howP p p.rust.lo l ∈ stepM p M l := by
    unfold stepM; split
    · rw [insM_mem, insM_mem, insM_mem]; simp
    · rw [insM_mem, insM_mem]; simp
  rw [h] at this; simp at this

/-- How many are not seen yet. -/
def unseen (n : Nat) (seen : List Nat) : Nat := ((List.range n).filter fun i => !seen.contains i).length

theorem unseen_lt {n i : Nat} {seen : List Nat} (hi : i < n) (hs : i ∉ seen) : unseen n (seen ++ [i]) < unseen n seen := by
  unfold unseen
  have e : ((List.range n).filter fun j => !(seen ++ [i]).contains j) = ((List.range n).filter fun j => !seen.contains j).filter fun j => !(j == i) := by
    rw [List.filter_filter]
    apply List.filter_congr
    intro j _
    cases h1 : seen.contains j <;> cases h2 : (j == i) <;> simp_all
  rw [e]
  apply List.length_filter_lt_length_iff_exists.2
  exact ⟨i, List.mem_filter.2 ⟨List.mem_range.2 hi, by simpa using hs⟩, by simp⟩

theorem unseen0 (n : Nat) : ([] : List Nat).length + unseen n [] ≤ n := by
  have := List.length_filter_le (fun i => !([] : List Nat).contains i) (List.range n)
  rw [List.length_range] at this
  simpa [unseen] using this

/-- What was seen of a list. -/
def pickL (M : List Int) (seen : List Nat) : List Int := seen.map fun i => M.getD i 0

theorem sorted3 {l : List Int} (hn : l.Nodup) (h : ∀ x ∈ l, x = 1 ∨ x = 2 ∨ x = 3) : l.length ≤ 3 ∧ isortI ltI l (l.length - 1) = [1, 2, 3].filter fun h => l.contains h := by
  match l, hn, h with
  | [], _, _ => exact ⟨by simp, by decide⟩
  | [a], _, h =>
    refine ⟨by simp, ?_⟩
    rcases h a (by simp) with rfl | rfl | rfl <;> decide
  | [a, b], hn, h =>
    refine ⟨by simp, ?_⟩
    rcases h a (by simp) with rfl | rfl | rfl <;> rcases h b (by simp) with rfl | rfl | rfl <;> first | (simp at hn; done) | decide
  | [a, b, c], hn, h =>
    refine ⟨by simp, ?_⟩
    rcases h a (by simp) with rfl | rfl | rfl <;> rcases h b (by simp) with rfl | rfl | rfl <;> rcases h c (by simp) with rfl | rfl | rfl <;> first | (simp at hn; done) | decide
  | a :: b :: c :: d :: r, hn, h =>
    exfalso
    simp only [List.nodup_cons, List.mem_cons, not_or] at hn
    obtain ⟨⟨h1, h2, h3, _⟩, ⟨h4, h5, _⟩, ⟨h6, _⟩, _⟩ := hn
    rcases h a (by simp) with rfl | rfl | rfl <;> rcases h b (by simp) with rfl | rfl | rfl <;> rcases h c (by simp) with rfl | rfl | rfl <;> rcases h d (by simp) with rfl | rfl | rfl <;> omega

theorem pickL_ok {M : List Int} {seen : List Nat} (hM : M.Nodup) (hs : seen.Nodup) (hb : ∀ i ∈ seen, i < M.length) (hall : ∀ i, i < M.length → i ∈ seen) : (pickL M seen).Nodup ∧ ∀ x, x ∈ pickL M seen ↔ x ∈ M := by
  constructor
  · rw [pickL, List.Nodup, List.pairwise_map]
    refine hs.imp_of_mem ?_
    intro a c ha hc hac e
    rw [getD_eq (hb a ha), getD_eq (hb c hc)] at e
    exact hac ((List.getElem_inj hM).1 e)
  · intro x
    simp only [pickL, List.mem_map]
    constructor
    · rintro ⟨i, hi, rfl⟩
      rw [getD_eq (hb i hi)]; exact List.getElem_mem _
    · intro hx
      obtain ⟨i, hi, rfl⟩ := List.getElem_of_mem hx
      exact ⟨i, hall i hi, getD_eq hi⟩

end Go.Aw
end

section
set_option maxRecDepth 100000
namespace Go.Aw
open Go Go.Proofs.Try

theorem waysL_eq {b : Bath} {x : Step} {fell : Int} {seen : List Nat} (hs : seen.Nodup) (hb : ∀ i ∈ seen, i < (canM b x fell (nStr b)).length) (hall : ∀ i, i < (canM b x fell (nStr b)).length → i ∈ seen) :
    (pickL (canM b x fell (nStr b)) seen).length ≤ 3 ∧ isortI ltI (pickL (canM b x fell (nStr b)) seen) ((pickL (canM b x fell (nStr b)) seen).length - 1) = waysL b x fell := by
  obtain ⟨h1, h2⟩ := canM_ok b x fell (nStr b)
  obtain ⟨h3, h4⟩ := pickL_ok h1 hs hb hall
  obtain ⟨h5, h6⟩ := sorted3 h3 (fun x hx => h2 x ((h4 x).1 hx))
  refine ⟨h5, h6.trans ?_⟩
  unfold waysL
  apply List.filter_congr
  intro a _
  rw [Bool.eq_iff_iff, List.contains_iff_mem, List.contains_iff_mem]
  exact h4 a

theorem c79 {b : Bath} {x : Step} {fell : Int} (hok : b.Ok) (hx : 0 ≤ x.plate ∧ x.plate < b.plates.length) (hh : 1 ≤ x.hours ∧ x.hours ≤ 24) (hf : 0 ≤ fell ∧ fell ≤ 4611686018427387904) :
    PC prog 79 [.d b.d, .d x.d, .d (.int .i64 fell)] (.d (.sl ((waysL b x fell).map (.int .i64)))) := by
  refine PC.run (fun k => k == 6) tt_ok (fn := f79) (rs := [.tmp 6]) rfl rfl rfl rfl rfl rfl rfl ?_
  obtain ⟨s1, s2, s3, hb5, _⟩ := id hok
  have hp := hok.pl x.plate
  have hp' := hp
  simp only [Plate.Ok] at hp'
  have hat := Bath.at hx
  simp only [go_sem, Bath.d, Step.d, hat, Plate.d]
  refine ALoop.by (S := Nat) (fun i => [(9, .d (.int .i64 (b.str.lo + i))), (8, .obj 3), (7, .ptr 4 0), (6, .ref 2 0 0 0), (4, .ptr 1 0), (3, .ptr 0 0), (2, .d (.int .i64 fell))])
    (fun i => [.cells [.d (.int .i64 b.str.lo), .d (.int .i64 b.str.hi), .d (.sl (b.plates.map Plate.d))], .cells [.d (.int .i64 x.plate), .d (.int .i64 x.hours)], .arr 1 true [], .obj (.map (mapOf (canM b x fell i))),
      .cells [.d (.int .i64 (b.pl x.plate).rust.lo), .d (.int .i64 (b.pl x.plate).rust.hi), .d (.int .i64 (b.pl x.plate).takes), .d (.int .i64 (b.pl x.plate).thin)]])
    (fun i => nStr b - i) (fun i => i ≤ nStr b) 0 (by simp) (fun _ h => nomatch h) (Nat.zero_le _) ?_ ?_
  · exact ForgetTo.same' (by simp) (by simp [EWe, Env.look]) (by simp [canM, mapOf])
  rintro i hi hn
  refine AWP.run (fun k => k == 6) tt_ok (fun _ h => nomatch h) (by simp) rfl ?_
  simp only [go_sem]
  have hns : (nStr b : Int) = b.str.hi - b.str.lo + 1 := by unfold nStr; omega
  refine Br_split (fun hc => ?_) (fun hc => ?_) <;> simp only [go_sem, hc]
  · have hle : b.str.lo + i ≤ b.str.hi := by simpa using hc
    have hlt : i < nStr b := by omega
    refine ADrw.treeG (fun k => k == 6) tt_ok (by kernel_rfl) (fun k => if k = 4 then some .L else some .S) (.ones [0, 1, 2, 3, 4, 5, 6] .done) (by simp) (fun _ h => nomatch h) rfl rfl (by kernel_rfl) ?_
    simp only [go_sem]
    refine (c106' hf (s := b.str.lo + i) (by omega)).callS rfl rfl rfl rfl rfl rfl ?_
    have hlb : 0 ≤ aft fell (b.str.lo + i) ∧ aft fell (b.str.lo + i) ≤ 40 := by simp only [aft]; omega
    have hmul : 0 ≤ aft fell (b.str.lo + i) * x.hours ∧ aft fell (b.str.lo + i) * x.hours ≤ 40 * 24 := by
      refine ⟨Int.mul_nonneg (by omega) (by omega), ?_⟩
      exact Int.mul_le_mul hlb.2 (by omega) (by omega) (by omega)
    have hlo : IntKind.i64.wrap (aft fell (b.str.lo + i) * x.hours) = losesAt b x fell i := w64 (by omega) (by omega)
    have hrt : IntKind.i64.wrap ((b.pl x.plate).rust.hi + (b.pl x.plate).thin) = (b.pl x.plate).rust.hi + (b.pl x.plate).thin := w64 (by omega) (by omega)
    simp only [go_sem, hlo, hrt]
    refine (c107 (rust := (b.pl x.plate).rust.lo) (loses := losesAt b x fell i) hp (by omega)).call rfl rfl rfl ?_
    simp only [go_sem, hrt, mput_mapOf]
    refine (c107 (rust := (b.pl x.plate).rust.hi) (loses := losesAt b x fell i) hp (by omega)).call rfl rfl rfl ?_
    simp only [go_sem, hrt, mput_mapOf]
    have hnx : IntKind.i64.wrap (b.str.lo + (i : Int) + 1) = b.str.lo + ((i + 1 : Nat) : Int) := by rw [w64 (by omega) (by omega)]; omega
    have done : ∀ M, M = canM b x fell (i + 1) → ∃ s', s' ≤ nStr b ∧ nStr b - s' < nStr b - i ∧ s' = i + 1 ∧ canM b x fell s' = M := fun M hM => ⟨i + 1, by omega, by omega, rfl, hM.symm⟩
    have hcs := canM_succ b x fell i
    unfold stepM at hcs
    refine Br_split (fun h1 => ?_) (fun h1 => ?_) <;> simp only [go_sem, h1, hrt]
    · refine Br_split (fun h2 => ?_) (fun h2 => ?_) <;> simp only [go_sem, h1, h2, hrt, mput_mapOf]
      · have h12 : (decide (losesAt b x fell i ≥ (b.pl x.plate).rust.lo) && decide (losesAt b x fell i ≤ (b.pl x.plate).rust.hi + (b.pl x.plate).thin)) = true := by rw [Bool.and_eq_true]; exact ⟨h1, h2⟩
        rw [if_pos h12] at hcs
        refine ⟨i + 1, by omega, by omega, ?_⟩
        exact ForgetTo.same' (by simp) (by simp [EWe, Env.look, hnx]) (by simp [hcs])
      · have h12 : ¬ (decide (losesAt b x fell i ≥ (b.pl x.plate).rust.lo) && decide (losesAt b x fell i ≤ (b.pl x.plate).rust.hi + (b.pl x.plate).thin)) = true := by
          rw [Bool.and_eq_true]
          intro h; have h2' := h.2; rw [h2] at h2'; cases h2'
        rw [if_neg h12] at hcs
        refine ⟨i + 1, by omega, by omega, ?_⟩
        exact ForgetTo.same' (by simp) (by simp [EWe, Env.look, hnx]) (by simp [hcs])
    · have h12 : ¬ (decide (losesAt b x fell i ≥ (b.pl x.plate).rust.lo) && decide (losesAt b x fell i ≤ (b.pl x.plate).rust.hi + (b.pl x.plate).thin)) = true := by
        rw [Bool.and_eq_true]
        intro h; have h2' := h.1; simp only [ge_iff_le] at h2'; rw [h1] at h2'; cases h2'
      rw [if_neg h12] at hcs
      refine ⟨i + 1, by omega, by omega, ?_⟩
      exact ForgetTo.same' (by simp) (by simp [EWe, Env.look, hnx]) (by simp [hcs])
  · have hle : ¬ b.str.lo + i ≤ b.str.hi := by simpa using hc
    have hin : i = nStr b := by omega
    subst hin
    have hne : canM b x fell (nStr b) ≠ [] := by
      obtain ⟨m, hm⟩ : ∃ m, nStr b = m + 1 := ⟨nStr b - 1, by omega⟩
      rw [hm, canM_succ]; exact stepM_ne
    have hwl : ∀ seen : List Nat, seen.Nodup → (∀ i ∈ seen, i < (canM b x fell (nStr b)).length) → (∀ i, i < (canM b x fell (nStr b)).length → i ∈ seen) → (pickL (canM b x fell (nStr b)) seen).length ≤ 3 ∧ isortI ltI (pickL (canM b x fell (nStr b)) seen) ((pickL (canM b x fell (nStr b)) seen).length - 1) = waysL b x fell := fun seen => waysL_eq
    have hM3 : (canM b x fell (nStr b)).length ≤ 3 := (sorted3 (canM_ok b x fell (nStr b)).1 (canM_ok b x fell (nStr b)).2).1
    generalize canM b x fell (nStr b) = M at hne hwl hM3
    refine ALoop.by (S := List Nat) (fun seen => [(69, .obj 5), (6, .ref 2 seen.length 0 seen.length)])
      (fun seen => [.cells [.d (.int .i64 b.str.lo), .d (.int .i64 b.str.hi), .d (.sl (b.plates.map Plate.d))], .cells [.d (.int .i64 x.plate), .d (.int .i64 x.hours)], .arr 1 seen.isEmpty ((pickL M seen).map (.int .i64)), .obj (.map (mapOf M)),
        .cells [.d (.int .i64 (b.pl x.plate).rust.lo), .d (.int .i64 (b.pl x.plate).rust.hi), .d (.int .i64 (b.pl x.plate).takes), .d (.int .i64 (b.pl x.plate).thin)], .obj (.iter 3 M.length seen)])
      (fun seen => unseen M.length seen) (fun seen => seen.Nodup ∧ (∀ i ∈ seen, i < M.length) ∧ seen.length + unseen M.length seen ≤ M.length) [] (by simp) (fun _ h => nomatch h) ⟨by simp, by simp, unseen0 M.length⟩ ?_ ?_
    · exact ForgetTo.same' (by simp) (by simp [EWe, Env.look]) (by simp [pickL, mapOf])
    rintro seen ⟨hnd, hbd, hlen⟩ hn2
    refine AWP.run (fun k => k == 6) tt_ok (fun _ h => nomatch h) (by simp) rfl ?_
    simp only [go_sem]
    refine anext_of (mid := 3) (n := M.length) (seen := seen) (es := mapOf M) rfl rfl (mapOf_len M) (fun hall => ?_) (fun i p hip hns => ?_)
    · simp only [go_sem]
      have hne2 : seen ≠ [] := by
        intro h; subst h
        cases M with
        | nil => exact hne rfl
        | cons a r => have := hall 0 (by simp); simp at this
      have hemp : seen.isEmpty = false := by cases seen with
        | nil => exact absurd rfl hne2
        | cons a r => rfl
      obtain ⟨h3, hsort⟩ := hwl seen hnd hbd hall
      have hpl : (pickL M seen).length = seen.length := by simp [pickL]
      rw [hpl] at h3 hsort
      rw [hemp]
      refine ACallV.of rfl (c108 (id := 2) (l := pickL M seen) (H := [.cells [.d (.int .i64 b.str.lo), .d (.int .i64 b.str.hi), .d (.sl (b.plates.map Plate.d))], .cells [.d (.int .i64 x.plate), .d (.int .i64 x.hours)], .arr 1 false [], .obj (.map (mapOf M)),
        .cells [.d (.int .i64 (b.pl x.plate).rust.lo), .d (.int .i64 (b.pl x.plate).rust.hi), .d (.int .i64 (b.pl x.plate).takes), .d (.int .i64 (b.pl x.plate).thin)], .obj (.iter 3 M.length seen)]) (by simp) hpl h3 ?_)
      rw [hsort]
      have hwlen : (waysL b x fell).length = seen.length := by rw [← hsort, isortI_len, hpl]
      simp only [go_sem, rowB, hwlen]
      rw [List.take_of_length_le (by simp [hwlen])]
    · simp only [go_sem]
      have hiM : i < M.length := by have := lt_of_getElem? hip; simpa [mapOf] using this
      have hp1 : p = (.int .i64 M[i], .bool true) := by
        rw [mapOf, List.getElem?_map, List.getElem?_eq_getElem hiM] at hip
        simpa using hip.symm
      subst hp1
      rw [aentry_of (mid := 3) (n := M.length) (i := i) (seen := seen ++ [i]) (es := mapOf M) (p := (.int .i64 M[i], .bool true)) rfl rfl (mapOf_len M) (by simp) hip]
      have hpl : (pickL M seen).length = seen.length := by simp [pickL]
      have hb1 : seen.length + 1 ≤ 4294967296 := by omega
      have hul := unseen_lt hiM hns
      simp only [go_sem, hpl, hb1]
      refine ⟨seen ++ [i], ⟨?_, ?_, by simp; omega⟩, hul, ?_⟩
      · rw [List.nodup_append]
        refine ⟨hnd, by simp, fun a ha c hc => ?_⟩
        simp at hc; subst hc
        intro e; subst e; exact hns ha
      · intro j hj
        rcases List.mem_append.1 hj with hj | hj
        · exact hbd j hj
        · simp at hj; omega
      · exact ForgetTo.same' (by simp) (by simp [EWe, Env.look]) (by simp [pickL, List.getElem?_eq_getElem hiM])
end Go.Aw
end

section
set_option maxRecDepth 100000
namespace Go.Aw
open Go Go.Proofs.Try

def platesOf (l : List Step) : List Int := l.map Step.plate

def outL (b : Bath) (l : List Step) (n : Nat) : List (List Int) := (List.range n).map fun i => waysL b (l.getD i ⟨0, 0⟩) (fellF b ((platesOf l).take i))

def outP (b : Bath) (l : List Step) : List (List Int) × Int :=
  if checkP b = 0 then (if stepsOk b.plates.length 0 l = true then (outL b l l.length, 0) else ([], 4)) else ([], checkP b)

theorem outL_succ (b : Bath) (l : List Step) (n : Nat) : outL b l (n + 1) = outL b l n ++ [waysL b (l.getD n ⟨0, 0⟩) (fellF b ((platesOf l).take n))] := by
  simp [outL, List.range_succ]

theorem outL_len (b : Bath) (l : List Step) (n : Nat) : (outL b l n).length = n := by simp [outL]

def intsD (l : List Int) : D := .sl (l.map (.int .i64))

theorem c28 (b : Bath) (l : List Step) (hb : b.plates.length ≤ 4294967296) (hl : l.length ≤ 1000) : PC prog 28 [.d b.d, .d (.sl (l.map Step.d))] (.tup [.d (.sl ((outP b l).1.map intsD)), .d (.int .i64 (outP b l).2)]) := by
  refine PC.run (fun k => k == 4) tt_ok (fn := f28) (rs := [.tmp 4, .tmp 5]) rfl rfl rfl rfl rfl rfl rfl ?_
  simp only [go_sem, Bath.d]
  refine (c76 b hb).call rfl rfl rfl ?_
  simp only [go_sem, Bath.d]
  refine Br_split (fun hc => ?_) (fun hc => ?_) <;> simp only [go_sem, hc]
  · have h0 : ¬ checkP b = 0 := by simpa using hc
    simp [outP, h0]
  · have h0 : checkP b = 0 := by simpa using hc
    have hok := checkP_iff.1 h0
    obtain ⟨s1, s2, s3, hb5, _⟩ := id hok
    refine (c77 b l (by omega) (by omega)).call rfl rfl rfl ?_
    simp only [go_sem]
    refine Br_split (fun h2 => ?_) (fun h2 => ?_) <;> simp only [go_sem, h2]
    · have h2' : ¬ stepsOk b.plates.length 0 l = true := by simpa using h2
      simp [outP, h0, h2']
    · have h2' : stepsOk b.plates.length 0 l = true := by simpa using h2
      have hmem := stepsOk_mem h2'
      have hpo : (platesOf l).length = l.length := by simp [platesOf]
      refine ALoop.by (S := Nat) (fun i => [(26, .d (.int .i64 i)), (25, .d (.int .i64 l.length)), (24, .d (.sl (l.map Step.d))), (7, .d (.int .i64 (fellF b ((platesOf l).take i)))), (6, .ptr 2 0), (4, .ref 1 i 0 i)])
        (fun i => [.cells [.d (.int .i64 b.str.lo), .d (.int .i64 b.str.hi), .d (.sl (b.plates.map Plate.d))], .arr 1 (decide (i = 0)) ((outL b l i).map intsD), .cells [.d (.int .i64 b.str.lo), .d (.int .i64 b.str.hi), .d (.sl (b.plates.map Plate.d))]])
        (fun i => l.length - i) (fun i => i ≤ l.length) 0 (by simp) (fun _ h => nomatch h) (Nat.zero_le _) ?_ ?_
      · exact ForgetTo.same' (by simp) (by simp [EWe, Env.look, fellF]) (by simp [outL])
      rintro i hi hn
      refine AWP.run (fun k => k == 4) tt_ok (fun _ h => nomatch h) (by simp) rfl ?_
      simp only [go_sem]
      have hfe := fellF_le hok ((platesOf l).take i)
      have hfi : ((platesOf l).take i).length ≤ 1000 := by simp; omega
      refine Br_split (fun hd => ?_) (fun hd => ?_) <;> simp only [go_sem, hd]
      · have hlt : i < l.length := by simpa using hd
        have hm := hmem _ (List.getElem_mem hlt)
        simp only [go_sem, idx_nat, List.getElem?_map, List.getElem?_eq_getElem hlt, Step.d]
        refine (c79 (x := l[i]) (fell := fellF b ((platesOf l).take i)) hok hm.1 hm.2 (by omega)).call rfl rfl rfl ?_
        have hol := outL_len b l i
        have hi' : i + 1 ≤ 4294967296 := by omega
        have hpl := hok.pl l[i].plate
        simp only [Plate.Ok] at hpl
        have hft : fellF b ((platesOf l).take i) + (b.pl l[i].plate).takes = fellF b ((platesOf l).take (i + 1)) := by
          rw [fellF_take (by omega)]; simp [platesOf]
        have hfe' := fellF_le hok ((platesOf l).take (i + 1))
        have hfi' : ((platesOf l).take (i + 1)).length ≤ 1000 := by simp; omega
        simp only [go_sem, hol, hi', Bath.at hm.1, Plate.d, hft]
        refine ⟨i + 1, hlt, by omega, ?_⟩
        have hgd : l.getD i ⟨0, 0⟩ = l[i] := by rw [List.getD_eq_getElem?_getD, List.getElem?_eq_getElem hlt]; rfl
        simp [ForgetTo, EW, VW, BBq, BBs, BB, VBs, VB, Env.look, pubV, w64 (n := (i : Int) + 1) (by omega) (by omega), w64 (n := fellF b ((platesOf l).take (i + 1))) (by omega) (by omega), outL_succ, List.getElem?_eq_getElem hlt, intsD]
      · have hil : i = l.length := by have : ¬ i < l.length := by simpa using hd
                                      omega
        subst hil
        have hol := outL_len b l l.length
        rw [List.take_of_length_le (by simp [hol])]
        simp only [go_sem, hol]
        simp [outP, h0, h2']
end Go.Aw
end

section
set_option maxRecDepth 100000
namespace Go.Aw
open Go Go.Proofs.Try

theorem c81 (l : List D) (hl : sized 2 l = true) : PC prog 81 [.d (.sl l)] (.slx none l) := by
  refine PC.run (fun _ => false) tt_ok (fn := f81) (rs := [.tmp 2]) rfl rfl rfl rfl rfl rfl rfl ?_
  simp only [go_sem, Int.natCast_nonneg, Int.toNat_natCast, hl]

def hourLo (b : Bath) (p : Plate) (fell : Int) : Int := if 0 < (aftS fell b.str).lo then max 1 ((p.rust.hi + (aftS fell b.str).lo - 1).tdiv (aftS fell b.str).lo) else 1

def hourHi (b : Bath) (p : Plate) (fell : Int) : Int := if 0 < (aftS fell b.str).hi then min 24 ((p.rust.lo + p.thin).tdiv (aftS fell b.str).hi) else 24

/-- For how long a plate may lie. -/
def hoursW (b : Bath) (plate fell : Int) : Sp × Bool :=
  if (aftS fell b.str).lo ≤ 0 ∧ 0 < (b.pl plate).rust.hi then (⟨0, 0⟩, false)
  else (⟨hourLo b (b.pl plate) fell, hourHi b (b.pl plate) fell⟩, decide (hourLo b (b.pl plate) fell ≤ hourHi b (b.pl plate) fell))

theorem tdiv_small {a c : Int} (ha : 0 ≤ a ∧ a ≤ 1000) (hc : 0 < c) : 0 ≤ a.tdiv c ∧ a.tdiv c ≤ 1000 := by
  rw [Int.tdiv_eq_ediv_of_nonneg ha.1]
  exact ⟨Int.ediv_nonneg ha.1 (by omega), by have := Int.ediv_le_self c ha.1; omega⟩

theorem c82 {b : Bath} {plate fell : Int} (hok : b.Ok) (hx : 0 ≤ plate ∧ plate < b.plates.length) (hf : 0 ≤ fell ∧ fell ≤ 4611686018427387904) :
    PC prog 82 [.d b.d, .d (.int .i64 plate), .d (.int .i64 fell)] (.tup [.d (hoursW b plate fell).1.d, .d (.bool (hoursW b plate fell).2)]) := by
  refine PC.run (fun _ => false) tt_ok (fn := f82) (rs := [.cell 6 23, .tmp 7]) rfl rfl rfl rfl rfl rfl rfl ?_
  obtain ⟨s1, s2, s3, hb5, _⟩ := id hok
  have hp := hok.pl plate
  simp only [Plate.Ok] at hp
  have hat := Bath.at hx
  simp only [go_sem, Bath.d]
  have hspan := c78 (a := fell) (s := b.str) (by omega) (by omega)
  have hab := aftS_bound (a := fell) (s := b.str) (by omega) ⟨s1, s2, s3⟩
  refine ADrw.treeG (fun _ => false) tt_ok (by kernel_rfl) (fun k => if k = 2 ∨ k = 5 ∨ k = 9 then some .L else if k = 13 ∨ k = 14 then some .W else if k = 11 ∨ k = 12 then some .A else some .S) (.ones [0, 1, 2, 3, 4, 5, 6, 7, 8, 9, 10] (.two 11 (.ones [12, 13, 14] .done) 12 (.ones [11, 13, 14] .done))) (by simp) (fun _ h => nomatch h) rfl rfl (by kernel_rfl) ?_
  simp only [go_sem, hat, Plate.d]
  refine hspan.callS rfl rfl rfl rfl rfl rfl ?_
  have w1 : IntKind.i64.wrap ((b.pl plate).rust.hi + (aftS fell b.str).lo) = (b.pl plate).rust.hi + (aftS fell b.str).lo := w64 (by omega) (by omega)
  have w2 : IntKind.i64.wrap ((b.pl plate).rust.hi + (aftS fell b.str).lo - 1) = (b.pl plate).rust.hi + (aftS fell b.str).lo - 1 := w64 (by omega) (by omega)
  have w3 : IntKind.i64.wrap ((b.pl plate).rust.lo + (b.pl plate).thin) = (b.pl plate).rust.lo + (b.pl plate).thin := w64 (by omega) (by omega)
  simp only [go_sem, Sp.d]
  refine ⟨?_, ?_⟩
  · refine Br_split (fun h1 => ?_) (fun h1 => ?_) <;> simp only [go_sem, h1]
    · have h1' : 0 < (aftS fell b.str).lo := by simpa using h1
      have h1n : ¬ (aftS fell b.str).lo ≤ 0 := by omega
      have hne : (aftS fell b.str).lo ≠ 0 := by omega
      have hq := tdiv_small (a := (b.pl plate).rust.hi + (aftS fell b.str).lo - 1) (c := (aftS fell b.str).lo) (by omega) h1'
      simp only [go_sem, w1, w2, quoO_ne hne, w64 (n := ((b.pl plate).rust.hi + (aftS fell b.str).lo - 1).tdiv (aftS fell b.str).lo) (by omega) (by omega)]
      refine Br_split (fun h2 => ?_) (fun h2 => ?_) <;> simp only [go_sem, h2]
      · have h2' : 0 < (aftS fell b.str).hi := by simpa using h2
        have hne2 : (aftS fell b.str).hi ≠ 0 := by omega
        have hq2 := tdiv_small (a := (b.pl plate).rust.lo + (b.pl plate).thin) (c := (aftS fell b.str).hi) (by omega) h2'
        refine ADrw.treeG (fun _ => false) tt_ok (by kernel_rfl) (fun k => if k = 1 ∨ k = 4 ∨ k = 6 ∨ k = 9 then some .L else if k = 13 then some .W else some .S) (.ones [0, 1, 2, 3, 4, 5, 6, 7, 8, 9, 10, 11, 12, 13] .done) (by simp) (fun _ h => nomatch h) rfl rfl (by kernel_rfl) ?_
        simp only [go_sem, w3, quoO_ne hne2, w64 (n := ((b.pl plate).rust.lo + (b.pl plate).thin).tdiv (aftS fell b.str).hi) (by omega) (by omega)]
        refine ADrw.treeG (fun _ => false) tt_ok (by kernel_rfl) (fun k => if k = 0 ∨ k = 2 ∨ k = 4 then some .L else if k = 6 then some .W else some .S) (.ones [0, 1, 3] (.three 2 (.two 4 (.ones [5, 6, 7] .done) 6 (.ones [4, 5, 7] .done)) 4 (.two 2 (.ones [5, 6, 7] .done) 6 (.ones [2, 5, 7] .done)) 6 (.ones [2, 4, 5, 7] .done))) (by simp) (fun _ h => nomatch h) rfl rfl (by kernel_rfl) ?_
        simp only [go_sem]
        simp [hoursW, hourLo, hourHi, h1', h1n, h2', Sp.d]
      · have h2' : ¬ 0 < (aftS fell b.str).hi := by simpa using h2
        refine ADrw.treeG (fun _ => false) tt_ok (by kernel_rfl) (fun k => if k = 0 ∨ k = 2 ∨ k = 4 then some .L else if k = 6 then some .W else some .S) (.ones [0, 1, 3] (.three 2 (.two 4 (.ones [5, 6, 7] .done) 6 (.ones [4, 5, 7] .done)) 4 (.two 2 (.ones [5, 6, 7] .done) 6 (.ones [2, 5, 7] .done)) 6 (.ones [2, 4, 5, 7] .done))) (by simp) (fun _ h => nomatch h) rfl rfl (by kernel_rfl) ?_
        simp only [go_sem]
        simp [hoursW, hourLo, hourHi, h1', h1n, h2', Sp.d]
    · have h1' : ¬ 0 < (aftS fell b.str).lo := by simpa using h1
      have h1n : (aftS fell b.str).lo ≤ 0 := by omega
      refine Br_split (fun h3 => ?_) (fun h3 => ?_) <;> simp only [go_sem, h3]
      · have h3' : 0 < (b.pl plate).rust.hi := by simpa using h3
        simp [hoursW, h1n, h3', Sp.d]
      · have h3' : ¬ 0 < (b.pl plate).rust.hi := by simpa using h3
        refine Br_split (fun h2 => ?_) (fun h2 => ?_) <;> simp only [go_sem, h2]
        · have h2' : 0 < (aftS fell b.str).hi := by simpa using h2
          have hne2 : (aftS fell b.str).hi ≠ 0 := by omega
          have hq2 := tdiv_small (a := (b.pl plate).rust.lo + (b.pl plate).thin) (c := (aftS fell b.str).hi) (by omega) h2'
          refine ADrw.treeG (fun _ => false) tt_ok (by kernel_rfl) (fun k => if k = 1 ∨ k = 4 ∨ k = 6 ∨ k = 9 then some .L else if k = 13 then some .W else some .S) (.ones [0, 1, 2, 3, 4, 5, 6, 7, 8, 9, 10, 11, 12, 13] .done) (by simp) (fun _ h => nomatch h) rfl rfl (by kernel_rfl) ?_
          simp only [go_sem, w3, quoO_ne hne2, w64 (n := ((b.pl plate).rust.lo + (b.pl plate).thin).tdiv (aftS fell b.str).hi) (by omega) (by omega)]
          refine ADrw.treeG (fun _ => false) tt_ok (by kernel_rfl) (fun k => if k = 0 ∨ k = 2 ∨ k = 4 then some .L else if k = 6 then some .W else some .S) (.ones [0, 1, 3] (.three 2 (.two 4 (.ones [5, 6, 7] .done) 6 (.ones [4, 5, 7] .done)) 4 (.two 2 (.ones [5, 6, 7] .done) 6 (.ones [2, 5, 7] .done)) 6 (.ones [2, 4, 5, 7] .done))) (by simp) (fun _ h => nomatch h) rfl rfl (by kernel_rfl) ?_
          simp only [go_sem]
          simp [hoursW, hourLo, hourHi, h1', h1n, h3', h2', Sp.d]
        · have h2' : ¬ 0 < (aftS fell b.str).hi := by simpa using h2
          refine ADrw.treeG (fun _ => false) tt_ok (by kernel_rfl) (fun k => if k = 0 ∨ k = 2 ∨ k = 4 then some .L else if k = 6 then some .W else some .S) (.ones [0, 1, 3] (.three 2 (.two 4 (.ones [5, 6, 7] .done) 6 (.ones [4, 5, 7] .done)) 4 (.two 2 (.ones [5, 6, 7] .done) 6 (.ones [2, 5, 7] .done)) 6 (.ones [2, 4, 5, 7] .done))) (by simp) (fun _ h => nomatch h) rfl rfl (by kernel_rfl) ?_
          simp only [go_sem]
          simp [hoursW, hourLo, hourHi, h1', h1n, h3', h2', Sp.d]
  · refine Br_split (fun h1 => ?_) (fun h1 => ?_) <;> simp only [go_sem, h1]
    · have h1' : 0 < (aftS fell b.str).lo := by simpa using h1
      have h1n : ¬ (aftS fell b.str).lo ≤ 0 := by omega
      have hne : (aftS fell b.str).lo ≠ 0 := by omega
      have hq := tdiv_small (a := (b.pl plate).rust.hi + (aftS fell b.str).lo - 1) (c := (aftS fell b.str).lo) (by omega) h1'
      simp only [go_sem, w1, w2, quoO_ne hne, w64 (n := ((b.pl plate).rust.hi + (aftS fell b.str).lo - 1).tdiv (aftS fell b.str).lo) (by omega) (by omega)]
      refine Br_split (fun h2 => ?_) (fun h2 => ?_) <;> simp only [go_sem, h2]
      · have h2' : 0 < (aftS fell b.str).hi := by simpa using h2
        have hne2 : (aftS fell b.str).hi ≠ 0 := by omega
        have hq2 := tdiv_small (a := (b.pl plate).rust.lo + (b.pl plate).thin) (c := (aftS fell b.str).hi) (by omega) h2'
        refine ADrw.treeG (fun _ => false) tt_ok (by kernel_rfl) (fun k => if k = 1 ∨ k = 4 ∨ k = 6 ∨ k = 9 then some .L else if k = 13 then some .W else some .S) (.ones [0, 1, 2, 3, 4, 5, 6, 7, 8, 9, 10, 11, 12, 13] .done) (by simp) (fun _ h => nomatch h) rfl rfl (by kernel_rfl) ?_
        simp only [go_sem, w3, quoO_ne hne2, w64 (n := ((b.pl plate).rust.lo + (b.pl plate).thin).tdiv (aftS fell b.str).hi) (by omega) (by omega)]
        refine ADrw.treeG (fun _ => false) tt_ok (by kernel_rfl) (fun k => if k = 0 ∨ k = 2 ∨ k = 4 then some .L else if k = 6 then some .W else some .S) (.ones [0, 1, 3] (.three 2 (.two 4 (.ones [5, 6, 7] .done) 6 (.ones [4, 5, 7] .done)) 4 (.two 2 (.ones [5, 6, 7] .done) 6 (.ones [2, 5, 7] .done)) 6 (.ones [2, 4, 5, 7] .done))) (by simp) (fun _ h => nomatch h) rfl rfl (by kernel_rfl) ?_
        simp only [go_sem]
        simp [hoursW, hourLo, hourHi, h1', h1n, h2', Sp.d]
      · have h2' : ¬ 0 < (aftS fell b.str).hi := by simpa using h2
        refine ADrw.treeG (fun _ => false) tt_ok (by kernel_rfl) (fun k => if k = 0 ∨ k = 2 ∨ k = 4 then some .L else if k = 6 then some .W else some .S) (.ones [0, 1, 3] (.three 2 (.two 4 (.ones [5, 6, 7] .done) 6 (.ones [4, 5, 7] .done)) 4 (.two 2 (.ones [5, 6, 7] .done) 6 (.ones [2, 5, 7] .done)) 6 (.ones [2, 4, 5, 7] .done))) (by simp) (fun _ h => nomatch h) rfl rfl (by kernel_rfl) ?_
        simp only [go_sem]
        simp [hoursW, hourLo, hourHi, h1', h1n, h2', Sp.d]
    · have h1' : ¬ 0 < (aftS fell b.str).lo := by simpa using h1
      have h1n : (aftS fell b.str).lo ≤ 0 := by omega
      refine Br_split (fun h3 => ?_) (fun h3 => ?_) <;> simp only [go_sem, h3]
      · have h3' : 0 < (b.pl plate).rust.hi := by simpa using h3
        simp [hoursW, h1n, h3', Sp.d]
      · have h3' : ¬ 0 < (b.pl plate).rust.hi := by simpa using h3
        refine Br_split (fun h2 => ?_) (fun h2 => ?_) <;> simp only [go_sem, h2]
        · have h2' : 0 < (aftS fell b.str).hi := by simpa using h2
          have hne2 : (aftS fell b.str).hi ≠ 0 := by omega
          have hq2 := tdiv_small (a := (b.pl plate).rust.lo + (b.pl plate).thin) (c := (aftS fell b.str).hi) (by omega) h2'
          refine ADrw.treeG (fun _ => false) tt_ok (by kernel_rfl) (fun k => if k = 1 ∨ k = 4 ∨ k = 6 ∨ k = 9 then some .L else if k = 13 then some .W else some .S) (.ones [0, 1, 2, 3, 4, 5, 6, 7, 8, 9, 10, 11, 12, 13] .done) (by simp) (fun _ h => nomatch h) rfl rfl (by kernel_rfl) ?_
          simp only [go_sem, w3, quoO_ne hne2, w64 (n := ((b.pl plate).rust.lo + (b.pl plate).thin).tdiv (aftS fell b.str).hi) (by omega) (by omega)]
          refine ADrw.treeG (fun _ => false) tt_ok (by kernel_rfl) (fun k => if k = 0 ∨ k = 2 ∨ k = 4 then some .L else if k = 6 then some .W else some .S) (.ones [0, 1, 3] (.three 2 (.two 4 (.ones [5, 6, 7] .done) 6 (.ones [4, 5, 7] .done)) 4 (.two 2 (.ones [5, 6, 7] .done) 6 (.ones [2, 5, 7] .done)) 6 (.ones [2, 4, 5, 7] .done))) (by simp) (fun _ h => nomatch h) rfl rfl (by kernel_rfl) ?_
          simp only [go_sem]
          simp [hoursW, hourLo, hourHi, h1', h1n, h3', h2', Sp.d]
        · have h2' : ¬ 0 < (aftS fell b.str).hi := by simpa using h2
          refine ADrw.treeG (fun _ => false) tt_ok (by kernel_rfl) (fun k => if k = 0 ∨ k = 2 ∨ k = 4 then some .L else if k = 6 then some .W else some .S) (.ones [0, 1, 3] (.three 2 (.two 4 (.ones [5, 6, 7] .done) 6 (.ones [4, 5, 7] .done)) 4 (.two 2 (.ones [5, 6, 7] .done) 6 (.ones [2, 5, 7] .done)) 6 (.ones [2, 4, 5, 7] .done))) (by simp) (fun _ h => nomatch h) rfl rfl (by kernel_rfl) ?_
          simp only [go_sem]
          simp [hoursW, hourLo, hourHi, h1', h1n, h3', h2', Sp.d]
end Go.Aw
end

section
set_option maxRecDepth 100000
namespace Go.Aw
open Go Go.Proofs.Try

def hoursP (b : Bath) (l : List Step) (plate : Int) : Sp × Int :=
  if checkP b = 0 then
    (if stepsOk b.plates.length 0 l = true then
      (if stepsOk b.plates.length 0 (l ++ [⟨plate, 1⟩]) = true then
        (if (hoursW b plate (fellF b (platesOf l))).2 = true then ((hoursW b plate (fellF b (platesOf l))).1, 0) else (⟨0, 0⟩, 9))
      else (⟨0, 0⟩, 7))
    else (⟨0, 0⟩, 4))
  else (⟨0, 0⟩, checkP b)

theorem sized_steps (l : List Step) : sized 2 (l.map Step.d) = true := by
  simp [sized, Step.d, dcells]

theorem c33 (b : Bath) (l : List Step) (plate : Int) (hb : b.plates.length ≤ 4294967296) (hl : l.length ≤ 1000) : PC prog 33 [.d b.d, .d (.sl (l.map Step.d)), .d (.int .i64 plate)] (.tup [.d (hoursP b l plate).1.d, .d (.int .i64 (hoursP b l plate).2)]) := by
  refine PC.run (fun _ => false) tt_ok (fn := f33) (rs := [.cell 6 23, .tmp 7]) rfl rfl rfl rfl rfl rfl rfl ?_
  simp only [go_sem, Bath.d]
  refine (c76 b hb).call rfl rfl rfl ?_
  simp only [go_sem, Bath.d]
  refine Br_split (fun hc => ?_) (fun hc => ?_) <;> simp only [go_sem, hc]
  · have h0 : ¬ checkP b = 0 := by simpa using hc
    simp [hoursP, h0, Sp.d]
  have h0 : checkP b = 0 := by simpa using hc
  have hok := checkP_iff.1 h0
  obtain ⟨s1, s2, s3, hb5, _⟩ := id hok
  refine (c77 b l (by omega) (by omega)).call rfl rfl rfl ?_
  simp only [go_sem]
  refine Br_split (fun h2 => ?_) (fun h2 => ?_) <;> simp only [go_sem, h2]
  · have h2' : ¬ stepsOk b.plates.length 0 l = true := by simpa using h2
    simp [hoursP, h0, h2', Sp.d]
  have h2' : stepsOk b.plates.length 0 l = true := by simpa using h2
  have hmem := stepsOk_mem h2'
  have hpo : (platesOf l).length = l.length := by simp [platesOf]
  refine ADrw.treeG (fun _ => false) tt_ok (by kernel_rfl) (fun k => if k = 0 then some .L else some .S) (.ones [0, 1, 2, 3, 4, 5, 6, 7, 8, 9] .done) (by simp) (fun _ h => nomatch h) rfl rfl (by kernel_rfl) ?_
  simp only [go_sem]
  refine (c81 (l.map Step.d) (sized_steps l)).callS rfl rfl rfl rfl rfl rfl ?_
  have hsz := sized_steps l
  have hle : (l.map Step.d).length + 1 ≤ 4294967296 := by simp; omega
  have hle2 : l.length + 1 ≤ 4294967296 := by omega
  simp only [go_sem, hsz, hle, hle2]
  refine (c77 b (l ++ [⟨plate, 1⟩]) (by omega) (by simp; omega)).callS (by simp [Bath.d, dz, Step.d]) rfl rfl rfl rfl rfl ?_
  simp only [go_sem]
  refine Br_split (fun h3 => ?_) (fun h3 => ?_) <;> simp only [go_sem, h3]
  · have h3' : ¬ stepsOk b.plates.length 0 (l ++ [⟨plate, 1⟩]) = true := by simpa using h3
    simp [hoursP, h0, h2', h3', Sp.d]
  have h3' : stepsOk b.plates.length 0 (l ++ [⟨plate, 1⟩]) = true := by simpa using h3
  have hpm := (stepsOk_mem h3' ⟨plate, 1⟩ (by simp)).1
  refine ALoop.by (S := Nat) (fun i => [(44, .d (.int .i64 i)), (43, .d (.int .i64 l.length)), (42, .d (.sl (l.map Step.d))), (10, .d (.int .i64 (fellF b ((platesOf l).take i)))), (8, .ptr 2 0), (6, .ptr 1 0), (2, .d (.int .i64 plate))])
    (fun i => [.cells [.d (.int .i64 b.str.lo), .d (.int .i64 b.str.hi), .d (.sl (b.plates.map Plate.d))], .cells [.d (.int .i64 0), .d (.int .i64 0)], .cells [.d (.int .i64 b.str.lo), .d (.int .i64 b.str.hi), .d (.sl (b.plates.map Plate.d))]])
    (fun i => l.length - i) (fun i => i ≤ l.length) 0 (by simp) (fun _ h => nomatch h) (Nat.zero_le _) ?_ ?_
  · exact ForgetTo.same' (by simp) (by simp [EWe, Env.look, fellF]) (by simp)
  rintro i hi hn
  refine AWP.run (fun _ => false) tt_ok (fun _ h => nomatch h) (by simp) rfl ?_
  simp only [go_sem]
  have hfe := fellF_le hok ((platesOf l).take i)
  have hfi : ((platesOf l).take i).length ≤ 1000 := by simp; omega
  refine Br_split (fun hd => ?_) (fun hd => ?_) <;> simp only [go_sem, hd]
  · have hlt : i < l.length := by simpa using hd
    have hm := hmem _ (List.getElem_mem hlt)
    have hpl := hok.pl l[i].plate
    simp only [Plate.Ok] at hpl
    have hft : fellF b ((platesOf l).take i) + (b.pl l[i].plate).takes = fellF b ((platesOf l).take (i + 1)) := by
      rw [fellF_take (by omega)]; simp [platesOf]
    have hfe' := fellF_le hok ((platesOf l).take (i + 1))
    have hfi' : ((platesOf l).take (i + 1)).length ≤ 1000 := by simp; omega
    simp only [go_sem, idx_nat, List.getElem?_map, List.getElem?_eq_getElem hlt, Step.d, Bath.at hm.1, Plate.d, hft]
    refine ⟨i + 1, hlt, by omega, ?_⟩
    simp [ForgetTo, EW, VW, BBq, BBs, BB, VBs, VB, Env.look, pubV, w64 (n := (i : Int) + 1) (by omega) (by omega), w64 (n := fellF b ((platesOf l).take (i + 1))) (by omega) (by omega)]
  have hnl : ¬ i < l.length := by simpa using hd
  have hil : (platesOf l).take i = platesOf l := List.take_of_length_le (by omega)
  rw [hil] at hfe hfi ⊢
  refine (c82 (plate := plate) (fell := fellF b (platesOf l)) hok hpm (by omega)).call rfl rfl rfl ?_
  simp only [go_sem, Sp.d]
  refine Br_split (fun h4 => ?_) (fun h4 => ?_) <;> simp only [go_sem, h4]
  · have h4' : ¬ (hoursW b plate (fellF b (platesOf l))).2 = true := by simpa using h4
    simp [hoursP, h0, h2', h3', h4', Sp.d]
  · have h4' : (hoursW b plate (fellF b (platesOf l))).2 = true := by simpa using h4
    simp [hoursP, h0, h2', h3', h4', Sp.d]
end Go.Aw
end

section
set_option maxRecDepth 100000
namespace Go.Aw
open Go Go.Proofs.Try

theorem bin_eql_cons {es : Nat} {z x : D} {r : List D} {H : Heap} {K : V → Heap → Prop} : evBin .eql (.sl es z) (.d (.sl (x :: r))) (.slx (some true) []) H K = K (.d (.bool false)) H := by
  simp [evBin, anilr, anil, Som]

theorem bin_eql_nil {es : Nat} {z : D} {H : Heap} {K : V → Heap → Prop} : evBin .eql (.sl es z) (.slx (some true) []) (.slx (some true) []) H K = K (.d (.bool true)) H := by
  simp [evBin, anilr, anil, Som]

theorem c109 (l : List Step) (hl : l.length ≤ 1000) (hne : l ≠ []) : PC prog 109 [.d (.sl (l.map Step.d))] (.d (.sl (l.map Step.d))) := by
  refine PC.run (fun _ => false) tt_ok (fn := f109) (rs := [.tmp 2]) rfl rfl rfl rfl rfl rfl rfl ?_
  obtain ⟨x, r, rfl⟩ := List.exists_cons_of_ne_nil hne
  have h0 := sized_steps (x :: r)
  have h1 : r.length + 1 ≤ 4294967296 := by simp at hl; omega
  simp only [List.map_cons] at h0
  have hs0 : sized 2 [] = true := rfl
  simp only [go_sem, bin_eql_cons, h0, h1, hs0]

theorem c109n : PC prog 109 [.slx (some true) []] (.slx (some true) []) := by
  refine PC.run (fun _ => false) tt_ok (fn := f109) (rs := [.tmp 2]) rfl rfl rfl rfl rfl rfl rfl ?_
  simp only [go_sem, bin_eql_nil]

/-- Without one number. -/
def clr (a p : Nat) : Nat := a ^^^ 2 ^ p

theorem clr_bit (a p q : Nat) : (clr a p).testBit q = (a.testBit q ^^ decide (p = q)) := by
  simp [clr, Nat.testBit_xor, Nat.testBit_two_pow]

theorem clr_add {a p : Nat} (h : a.testBit p = true) : clr a p + 2 ^ p = a := by
  have hr : a % 2 ^ p < 2 ^ p := Nat.mod_lt _ (Nat.two_pow_pos p)
  have hq : a / 2 ^ p % 2 = 1 := by rw [Nat.testBit_eq_decide_div_mod_eq] at h; simpa using h
  have e : clr a p = 2 ^ p * (a / 2 ^ p - 1) + a % 2 ^ p := by
    apply Nat.eq_of_testBit_eq
    intro j
    rw [clr_bit, Nat.testBit_two_pow_mul_add _ hr]
    by_cases hj : j < p
    · rw [if_pos hj, Nat.testBit_mod_two_pow]
      simp [hj, show p ≠ j by omega]
    · rw [if_neg hj]
      obtain ⟨k, rfl⟩ : ∃ k, j = p + k := ⟨j - p, by omega⟩
      rw [show p + k - p = k by omega, show a.testBit (p + k) = (a / 2 ^ p).testBit k by rw [Nat.testBit_div_two_pow, Nat.add_comm]]
      generalize a / 2 ^ p = q at hq
      cases k with
      | zero =>
        rw [Nat.testBit_zero, Nat.testBit_zero]
        simp [hq]; omega
      | succ k =>
        rw [Nat.testBit_succ, Nat.testBit_succ, show (q - 1) / 2 = q / 2 by omega]
        simp
  have h1 : 2 ^ p * (a / 2 ^ p - 1) + 2 ^ p = 2 ^ p * (a / 2 ^ p) := by
    generalize a / 2 ^ p = q at hq
    obtain ⟨m, rfl⟩ : ∃ m, q = m + 1 := ⟨q - 1, by omega⟩
    rw [Nat.mul_succ]; simp
  have h2 := Nat.div_add_mod a (2 ^ p)
  omega

theorem clr_lt {a p : Nat} (h : a.testBit p = true) : clr a p < a := by
  have := clr_add h
  have := Nat.two_pow_pos p
  omega

theorem andNotN {a p : Nat} (ha : a < 2 ^ 63) (hp : p < 63) (h : a.testBit p = true) : andNotI .i64 (a : Int) ((2 ^ p : Nat) : Int) = (clr a p : Nat) := by
  have h2 : 2 ^ p < 2 ^ 63 := Nat.pow_lt_pow_right (by omega) hp
  have e : (BitVec.ofInt 64 (a : Int) &&& ~~~(BitVec.ofInt 64 ((2 ^ p : Nat) : Int))).toNat = clr a p := by
    apply Nat.eq_of_testBit_eq
    intro q
    rw [BitVec.toNat_and, Nat.testBit_and, bv64 (by omega), BitVec.toNat_not, bv64 (by omega), clr_bit]
    by_cases hq : q < 64
    · rw [show 2 ^ 64 - 1 - 2 ^ p = 2 ^ 64 - (2 ^ p + 1) by omega, Nat.testBit_two_pow_sub_succ (by omega)]
      simp only [hq, decide_true, Bool.true_and, Nat.testBit_two_pow]
      by_cases hpq : p = q
      · subst hpq; simp [h]
      · simp [hpq]
    · have : a.testBit q = false := Nat.testBit_lt_two_pow (Nat.lt_of_lt_of_le ha (Nat.pow_le_pow_right (by omega) (by omega)))
      simp [this, show p ≠ q by omega]
  show IntKind.i64.wrap (((BitVec.ofInt 64 (a : Int) &&& ~~~(BitVec.ofInt 64 ((2 ^ p : Nat) : Int))).toNat : Nat) : Int) = _
  rw [e]
  have := clr_lt h
  exact xw64 (by omega)

/-- The best steps that were found. -/
structure Best where
  best : List Step
  hrs : Int
  found : Bool

def lv (l : List Step) : V :=
  match l with
  | [] => .slx (some true) []
  | x :: r => .d (.sl ((x :: r).map Step.d))

def stB (b : Bath) (s : Best) : Blk := .cells [.d (.int .i64 b.str.lo), .d (.int .i64 b.str.hi), .d (.sl (b.plates.map Plate.d)), lv s.best, .d (.int .i64 s.hrs), .d (.bool s.found)]

def endS (l : List Step) (hours : Int) (s : Best) : Best := if (!s.found || decide (hours < s.hrs)) = true then ⟨l, hours, true⟩ else s

/-- The best steps, by those that are left. -/
def onF (b : Bath) : Nat → Nat → List Step → Int → Int → Best → Best
  | 0, _, l, _, hours, s => endS l hours s
  | n + 1, left, l, fell, hours, s =>
    if left = 0 then endS l hours s
    else (List.range b.plates.length).foldl (fun s p => if (left.testBit p && (hoursW b p fell).2) = true then
      onF b n (clr left p) (l ++ [⟨p, (hoursW b p fell).1.lo⟩]) (fell + (b.pl p).takes) (hours + (hoursW b p fell).1.lo) s else s) s

end Go.Aw
end

section
set_option maxRecDepth 100000
namespace Go.Aw
open Go Go.Proofs.Try

/-! A heap with one block that turns, and new blocks behind. -/
section
variable {H : Heap} {id : Nat} (hid : id < H.length)
theorem hx_len (X : Blk) : (H.set id X).length = H.length := by simp
include hid
theorem hx_get (X : Blk) : (H.set id X)[id]? = some X := by rw [List.getElem?_set_self hid]
theorem hx_get' (X : Blk) (Y : Heap) : (H.set id X ++ Y)[id]? = some X := by
  rw [List.getElem?_append_left (by simpa using hid)]; exact hx_get hid X
omit hid
theorem hx_set (X X' : Blk) : (H.set id X).set id X' = H.set id X' := by rw [List.set_set]
include hid
theorem hx_set' (X X' : Blk) (Y : Heap) : (H.set id X ++ Y).set id X' = H.set id X' ++ Y := by
  rw [List.set_append_left _ _ (by simpa using hid), List.set_set]
omit hid
theorem hx_new0 (X a : Blk) (r : Heap) : (H.set id X ++ (a :: r))[H.length]? = some a := by
  rw [List.getElem?_append_right (by simp)]; simp
theorem hx_new1 (X a c : Blk) (r : Heap) : (H.set id X ++ (a :: c :: r))[H.length + 1]? = some c := by
  rw [List.getElem?_append_right (by simp)]; simp
theorem hx_put0 (X a a' : Blk) (r : Heap) : (H.set id X ++ (a :: r)).set H.length a' = H.set id X ++ (a' :: r) := by
  rw [List.set_append_right _ _ (by simp)]; simp
theorem hx_put1 (X a c c' : Blk) (r : Heap) : (H.set id X ++ (a :: c :: r)).set (H.length + 1) c' = H.set id X ++ (a :: c' :: r) := by
  rw [List.set_append_right _ _ (by simp)]; simp
end

theorem BBs_set {n : Nat} {x : Blk} : ∀ {l : List Blk} {i : Nat}, BBs n l → BB n x → BBs n (l.set i x)
  | [], _, _, _ => trivial
  | _ :: _, 0, h, hx => ⟨hx, h.2⟩
  | _ :: _, _ + 1, h, hx => ⟨h.1, BBs_set h.2 hx⟩

def EWp (n : Nat) (H : Heap) (E : Env) : Env → Prop
  | [] => True
  | (k, v) :: r => (E.look k = v ∧ pubV n H v = some v) ∧ EWp n H E r

theorem EWp_ew {n : Nat} {H : Heap} {E : Env} : ∀ {E' : Env}, EWp n H E E' → EW n H E E'
  | [], _ => trivial
  | (_, _) :: _, h => ⟨.inr (.inr (.inl (by rw [h.1.1]; exact h.1.2))), EWp_ew h.2⟩

/-- The newest blocks are dropped. -/
theorem ForgetTo.drop {n0 : Nat} {E E' : Env} {H0 Y H' : Heap} (hn : n0 ≤ H'.length) (hH : H0 = H') (hbb : BBs H'.length H') (he : EWp H'.length (H0 ++ Y) E E') : ForgetTo n0 E (H0 ++ Y) E' H' := by
  subst hH
  exact ⟨hn, by simp, .inr (by rw [List.take_left]; exact hbb), List.take_left, EWp_ew he⟩

theorem pubV_lv (n : Nat) (H : Heap) (l : List Step) : pubV n H (lv l) = some (lv l) := by cases l <;> rfl

theorem lv_one (l : List Step) : (lv l).one = true := by cases l <;> rfl

theorem hoursW_lo {b : Bath} {p fell : Int} (hok : b.Ok) (h : (hoursW b p fell).2 = true) : 1 ≤ (hoursW b p fell).1.lo ∧ (hoursW b p fell).1.lo ≤ 24 := by
  unfold hoursW at h ⊢
  split
  · rename_i hc; rw [if_pos hc] at h; cases h
  · rename_i hc
    rw [if_neg hc] at h
    simp only [decide_eq_true_eq] at h
    have h1 : 1 ≤ hourLo b (b.pl p) fell := by unfold hourLo; split <;> omega
    have h2 : hourHi b (b.pl p) fell ≤ 24 := by unfold hourHi; split <;> omega
    exact ⟨h1, by simp only; omega⟩

def stepS (b : Bath) (n left : Nat) (l : List Step) (fell hours : Int) (s : Best) (p : Nat) : Best :=
  if (left.testBit p && (hoursW b p fell).2) = true then onF b n (clr left p) (l ++ [⟨p, (hoursW b p fell).1.lo⟩]) (fell + (b.pl p).takes) (hours + (hoursW b p fell).1.lo) s else s

theorem onF_succ (b : Bath) (n left : Nat) (l : List Step) (fell hours : Int) (s : Best) (h : left ≠ 0) : onF b (n + 1) left l fell hours s = (List.range b.plates.length).foldl (stepS b n left l fell hours) s := by
  simp only [onF, if_neg h]; rfl

theorem clone_lv {l : List Step} (hl : l.length ≤ 1000) {H : Heap} {Q : V → Heap → Prop} (hq : Q (lv l) H) : ACallV prog (.fn (.func 109) [] []) [lv l] H Q := by
  cases l with
  | nil => exact ACallV.of rfl (c109n.use rfl rfl hq)
  | cons x r => exact ACallV.of rfl ((c109 (x :: r) hl (by simp)).use rfl rfl hq)

theorem c83_end {b : Bath} {l : List Step} (hl : l.length ≤ 1000) {fell hours : Int} {s : Best} {H : Heap} {id : Nat} (hid : id < H.length) {Q : V → Heap → Prop} (hq : Q (.tup []) (H.set id (stB b (endS l hours s)))) :
    ACalls prog 83 [.ptr id 0, .d (.int .i64 0), lv l, .d (.int .i64 fell), .d (.int .i64 hours)] (H.set id (stB b s)) Q := by
  refine ACalls.run (fun _ => false) tt_ok (fn := f83) (rs := []) rfl rfl rfl rfl rfl rfl rfl ?_
  have hvc : vcells (lv l) = some [lv l] := by cases l <;> rfl
  have hlo := lv_one l
  simp only [go_sem, hx_get hid, hx_len, stB]
  have fin : ∀ X, X = stB b (endS l hours s) → Q (.tup []) (H.set id X) := fun X hX => hX ▸ hq
  have upd : (!s.found || decide (hours < s.hrs)) = true → stB b (endS l hours s) = .cells [.d (.int .i64 b.str.lo), .d (.int .i64 b.str.hi), .d (.sl (b.plates.map Plate.d)), lv l, .d (.int .i64 hours), .d (.bool true)] := fun h => by simp [endS, h, stB]
  have keep : ¬ (!s.found || decide (hours < s.hrs)) = true → stB b (endS l hours s) = stB b s := fun h => by rw [endS, if_neg h]
  refine Br_split (fun h1 => ?_) (fun h1 => ?_) <;> simp only [go_sem, h1, hx_get hid, hx_len, hx_set]
  · refine clone_lv hl ?_
    simp only [go_sem, hx_get hid, hx_len, hx_set, hvc, hlo]
    rw [List.take_of_length_le (by simp)]
    exact fin _ (upd (by rw [h1]; rfl)).symm
  · refine Br_split (fun h2 => ?_) (fun h2 => ?_) <;> simp only [go_sem, h1, h2, hx_get hid, hx_len, hx_set]
    · refine clone_lv hl ?_
      simp only [go_sem, hx_get hid, hx_len, hx_set, hvc, hlo]
      rw [List.take_of_length_le (by simp)]
      exact fin _ (upd (by rw [h2]; simp)).symm
    · rw [List.take_of_length_le (by simp)]
      exact fin _ (keep (by rw [h1, h2]; simp)).symm

theorem bitN0 (a p : Nat) : decide (((a >>> p &&& 1 : Nat) : Int) = 0) = !a.testBit p := by
  rw [← bitN]
  have : a >>> p &&& 1 = 0 ∨ a >>> p &&& 1 = 1 := by rw [Nat.and_one_is_mod]; omega
  rcases this with h | h <;> simp [h]

theorem onF_step (b : Bath) (n left : Nat) (l : List Step) (fell hours : Int) (s : Best) (p : Nat) : (List.range (p + 1)).foldl (stepS b n left l fell hours) s = stepS b n left l fell hours ((List.range p).foldl (stepS b n left l fell hours) s) p := by
  rw [List.range_succ, List.foldl_append]; rfl

theorem lv_append (l : List Step) (x : Step) : lv (l ++ [x]) = .d (.sl (l.map Step.d ++ [x.d])) := by
  cases l <;> simp [lv]

theorem dz_lv (l : List Step) : dz (lv l) = .d (.sl (l.map Step.d)) := by cases l <;> rfl

theorem VB_lv (n : Nat) (l : List Step) : VB n (lv l) = true := by cases l <;> rfl

theorem BB_stB (n : Nat) (b : Bath) (s : Best) : BB n (stB b s) := by
  simp [stB, BB, VBs, VB, VB_lv]

theorem c83 {b : Bath} (hok : b.Ok) : ∀ (n left : Nat) (l : List Step) (fell hours : Int) (s : Best) (H : Heap) (id : Nat), id < H.length → BBs H.length H → left ≤ n → n ≤ 100 → l.length + n ≤ 900 → (0 ≤ fell ∧ fell + 10 * n ≤ 10000) → (0 ≤ hours ∧ hours + 24 * n ≤ 10000) →
    ∀ Q : V → Heap → Prop, Q (.tup []) (H.set id (stB b (onF b n left l fell hours s))) → ACalls prog 83 [.ptr id 0, .d (.int .i64 left), lv l, .d (.int .i64 fell), .d (.int .i64 hours)] (H.set id (stB b s)) Q := by
  intro n
  induction n with
  | zero =>
    intro left l fell hours s H id hid hbb hle hn hl hf hh Q hq
    obtain rfl : left = 0 := by omega
    exact c83_end (by omega) hid hq
  | succ n ih =>
    intro left l fell hours s H id hid hbb hle hn hl hf hh Q hq
    by_cases h0 : left = 0
    · subst h0
      refine c83_end (by omega) hid ?_
      simpa only [onF, if_true] using hq
    rw [onF_succ b n left l fell hours s h0] at hq
    have hok' := hok
    obtain ⟨_, _, _, hb5, _⟩ := hok'
    refine ACalls.run (fun _ => false) tt_ok (fn := f83) (rs := []) rfl rfl rfl rfl rfl rfl rfl ?_
    have hl0 : decide ((left : Int) = 0) = false := by simp; omega
    simp only [go_sem, hx_get hid, hx_len, stB, hl0]
    refine ALoop.by (S := Nat) (fun p => [(48, .d (.int .i64 p)), (47, .d (.int .i64 b.plates.length)), (46, .d (.sl (b.plates.map Plate.d))), (4, .d (.int .i64 hours)), (3, .d (.int .i64 fell)), (2, lv l), (1, .d (.int .i64 left)), (0, .ptr id 0)])
      (fun p => H.set id (stB b ((List.range p).foldl (stepS b n left l fell hours) s))) (fun p => b.plates.length - p) (fun p => p ≤ b.plates.length) 0 (by simp) (fun _ h => nomatch h) (Nat.zero_le _) ?_ ?_
    · exact ForgetTo.same' (by simp) (by simp [EWe, Env.look]) (by simp [stB])
    rintro p hp hn'
    refine AWP.run (fun _ => false) tt_ok (fun _ h => nomatch h) (by simp) rfl ?_
    have hst := onF_step b n left l fell hours s p
    generalize hgs : (List.range p).foldl (stepS b n left l fell hours) s = s' at hst
    simp only [go_sem, hx_get hid, hx_len, stB]
    refine Br_split (fun hc => ?_) (fun hc => ?_) <;> simp only [go_sem, hc, hx_get hid, hx_len]
    · have hlt : p < b.plates.length := by simpa using hc
      have hat : idx? (b.plates.map Plate.d) (p : Int) = some (b.pl p).d := Bath.at (by omega)
      have hl63 : left < 2 ^ 63 := by omega
      simp only [go_sem, hx_get hid, hx_get' hid, hx_len, hat, Plate.d, shrN left (show p < 64 by omega), and1N (shr_lt (p := p) hl63), bitN0, hx_new0, hx_put0, List.append_assoc]
      have hnx : IntKind.i64.wrap ((p : Int) + 1) = ((p + 1 : Nat) : Int) := w64 (by omega) (by omega)
      refine Br_split (fun h1 => ?_) (fun h1 => ?_) <;> simp only [go_sem, h1, hx_get hid, hx_get' hid, hx_len, hx_new0, hx_put0, List.append_assoc]
      · have h1' : left.testBit p = false := by simpa using h1
        rw [stepS, if_neg (by simp [h1'])] at hst
        refine ⟨p + 1, hlt, by omega, ?_⟩
        refine ForgetTo.drop (by simp) (by simp only [hst, stB]) (by rw [hx_len]; exact BBs_set hbb (by simp [BB, VBs, VB, VB_lv])) ?_
        simp [EWp, Env.look, pubV, pubV_lv, hnx, hid]
      · have h1' : left.testBit p = true := by simpa using h1
        refine (c82 (plate := (p : Int)) (fell := fell) hok (by omega) (by omega)).call rfl rfl rfl ?_
        simp only [go_sem, h1, hx_get hid, hx_get' hid, hx_len, hx_new0, hx_put0, hx_new1, hx_put1, List.append_assoc, List.length_append, Sp.d]
        refine Br_split (fun h2 => ?_) (fun h2 => ?_) <;> simp only [go_sem, h1, h2, hx_get hid, hx_get' hid, hx_len, hx_new0, hx_put0, hx_new1, hx_put1, List.append_assoc, List.length_append]
        · obtain ⟨q1, q2⟩ := hoursW_lo hok h2
          have hpl := hok.pl p
          simp only [Plate.Ok] at hpl
          have w1 : IntKind.i64.wrap (fell + (b.pl p).takes) = fell + (b.pl p).takes := w64 (by omega) (by omega)
          have w2 : IntKind.i64.wrap (hours + (hoursW b p fell).1.lo) = hours + (hoursW b p fell).1.lo := w64 (by omega) (by omega)
          have hcl := clr_lt h1'
          have han := andNotN (p := p) hl63 (by omega) h1'
          have hsz := sized_steps l
          have hle' : l.length + 1 ≤ 4294967296 := by omega
          refine ADrw.treeG (fun _ => false) tt_ok (by kernel_rfl) (fun k => if k = 21 then none else if k = 9 ∨ k = 15 ∨ k = 19 then some .L else some .S) (.ones [0, 1, 2, 3, 4, 5, 6, 7, 8, 9, 10, 11, 12, 13, 14, 15, 16, 17, 18, 19, 20] (.only 21 .done)) (by simp) (fun _ h => nomatch h) rfl rfl (by kernel_rfl) ?_
          simp only [go_sem, hx_get hid, hx_get' hid, hx_len, hx_new0, hx_put0, hx_new1, hx_put1, List.append_assoc, List.length_append, shlN (show p < 63 by omega), han]
          refine (c81 (l.map Step.d) (sized_steps l)).callS (by simp [dz_lv]) rfl rfl rfl (by simp [VBs, VB_lv]) rfl ?_
          simp only [go_sem, hx_get hid, hx_get' hid, hx_len, hx_new0, hx_put0, hx_new1, hx_put1, List.append_assoc, List.length_append, hsz, hle', w1, w2]
          have hYb : ∀ n : Nat, BBs n [.cells [.d (.int .i64 (b.pl p).rust.lo), .d (.int .i64 (b.pl p).rust.hi), .d (.int .i64 (b.pl p).takes), .d (.int .i64 (b.pl p).thin)], .cells [.d (.int .i64 (hoursW b p fell).1.lo), .d (.int .i64 (hoursW b p fell).1.hi)]] := fun n => by simp [BBs, BB, VBs, VB]
          have key := fun Q => ih (clr left p) (l ++ [⟨p, (hoursW b p fell).1.lo⟩]) (fell + (b.pl p).takes) (hours + (hoursW b p fell).1.lo) s' (H.set id (stB b s') ++ [.cells [.d (.int .i64 (b.pl p).rust.lo), .d (.int .i64 (b.pl p).rust.hi), .d (.int .i64 (b.pl p).takes), .d (.int .i64 (b.pl p).thin)], .cells [.d (.int .i64 (hoursW b p fell).1.lo), .d (.int .i64 (hoursW b p fell).1.hi)]]) id
            (by simp; omega) (BBs_append (BBs_set (BBs_le (by simp) hbb) (BB_stB _ _ _)) (hYb _)) (by omega) (by omega) (by simp; omega) ⟨by omega, by omega⟩ ⟨by omega, by omega⟩ Q
          simp only [hx_set' hid, lv_append, Step.d] at key
          refine ACallV.of rfl (key _ ?_)
          have hs'' : stepS b n left l fell hours s' p = onF b n (clr left p) (l ++ [⟨p, (hoursW b p fell).1.lo⟩]) (fell + (b.pl p).takes) (hours + (hoursW b p fell).1.lo) s' := by rw [stepS, if_pos (by rw [h1', h2]; rfl)]
          rw [hs''] at hst
          simp only [go_sem, hx_get hid, hx_get' hid, hx_len]
          refine ⟨p + 1, hlt, by omega, ?_⟩
          refine ForgetTo.drop (by simp) (by simp only [hst, stB]) (by rw [hx_len]; exact BBs_set hbb (by simp [BB, VBs, VB, VB_lv])) ?_
          simp [EWp, Env.look, pubV, pubV_lv, hnx, hid]
        · rw [stepS, if_neg (by rw [h2]; simp)] at hst
          refine ⟨p + 1, hlt, by omega, ?_⟩
          refine ForgetTo.drop (by simp) (by simp only [hst, stB]) (by rw [hx_len]; exact BBs_set hbb (by simp [BB, VBs, VB, VB_lv])) ?_
          simp [EWp, Env.look, pubV, pubV_lv, hnx, hid]
    · have hnl : ¬ p < b.plates.length := by simpa using hc
      obtain rfl : p = b.plates.length := by omega
      rw [hgs] at hq
      rw [List.take_of_length_le (by simp)]
      exact hq
end Go.Aw
end

section
set_option maxRecDepth 100000
namespace Go.Aw
open Go Go.Proofs.Try

/-- The best steps for some plates. -/
def bestOf (b : Bath) (set : Nat) : Best := onF b 31 set [] 0 0 ⟨[], 0, false⟩

def orderP (b : Bath) : List Step × Int :=
  if checkP b = 0 then (if (bestOf b (2 ^ b.plates.length - 1)).found = true then ((bestOf b (2 ^ b.plates.length - 1)).best, 0) else ([], 9)) else ([], checkP b)

theorem pow_le31 {n : Nat} (h : n ≤ 5) : 1 ≤ 2 ^ n ∧ 2 ^ n ≤ 32 := by
  have : n = 0 ∨ n = 1 ∨ n = 2 ∨ n = 3 ∨ n = 4 ∨ n = 5 := by omega
  rcases this with rfl | rfl | rfl | rfl | rfl | rfl <;> decide

theorem c37 (b : Bath) (hb : b.plates.length ≤ 4294967296) : PC prog 37 [.d b.d] (.tup [lv (orderP b).1, .d (.int .i64 (orderP b).2)]) := by
  refine PC.run (fun k => k == 16) tt_ok (fn := f37) (rs := [.tmp 2, .tmp 3]) rfl rfl rfl rfl rfl rfl rfl ?_
  simp only [go_sem, Bath.d]
  refine (c76 b hb).call rfl rfl rfl ?_
  simp only [go_sem, Bath.d]
  refine Br_split (fun hc => ?_) (fun hc => ?_) <;> simp only [go_sem, hc]
  · have h0 : ¬ checkP b = 0 := by simpa using hc
    simp [orderP, h0, lv]
  have h0 : checkP b = 0 := by simpa using hc
  have hok := checkP_iff.1 h0
  have hok' := hok
  obtain ⟨_, _, _, hb5, _⟩ := hok'
  obtain ⟨p1, p2⟩ := pow_le31 hb5
  have hw : IntKind.i64.wrap (((2 ^ b.plates.length : Nat) : Int) - 1) = ((2 ^ b.plates.length - 1 : Nat) : Int) := by rw [w64 (by omega) (by omega)]; omega
  simp only [go_sem, shlN (show b.plates.length < 63 by omega), hw]
  refine ACallV.of rfl (c83 hok 31 (2 ^ b.plates.length - 1) [] 0 0 ⟨[], 0, false⟩ [.cells [.d (.int .i64 b.str.lo), .d (.int .i64 b.str.hi), .d (.sl (b.plates.map Plate.d))], .cells [.d (.int .i64 b.str.lo), .d (.int .i64 b.str.hi), .d (.sl (b.plates.map Plate.d))], stB b ⟨[], 0, false⟩] 2 (by simp) ⟨rfl, rfl, BB_stB _ _ _, trivial⟩ (by omega) (by omega) (by simp) (by omega) (by omega) _ ?_)
  simp only [go_sem, stB]
  generalize hbo : onF b 31 (2 ^ b.plates.length - 1) [] 0 0 ⟨[], 0, false⟩ = s
  have hbs : bestOf b (2 ^ b.plates.length - 1) = s := hbo
  refine Br_split (fun h1 => ?_) (fun h1 => ?_) <;> simp only [go_sem, h1]
  · have h1' : ¬ s.found = true := by simpa using h1
    simp [orderP, h0, hbs, h1', lv]
  · have h1' : s.found = true := by simpa using h1
    simp only [go_sem, pubV_lv]
    simp [orderP, h0, hbs, h1']
end Go.Aw
end

section
set_option maxRecDepth 100000
namespace Go.Aw
open Go Go.Proofs.Try

/-- Numbers as data. -/
def natsD (l : List Nat) : List D := l.map fun k : Nat => .int .i64 (k : Int)

theorem natsD_len (l : List Nat) : (natsD l).length = l.length := by simp [natsD]

theorem sized_nats (l : List Nat) : sized 1 (natsD l) = true := by
  simp [sized, natsD, dcells]

theorem c111 (l : List D) (hl : sized 1 l = true) : PC prog 111 [.d (.sl l)] (.slx none l) := by
  refine PC.run (fun _ => false) tt_ok (fn := f111) (rs := [.tmp 2]) rfl rfl rfl rfl rfl rfl rfl ?_
  simp only [go_sem, Int.natCast_nonneg, Int.toNat_natCast, hl]

theorem c96 (l : List Nat) (hl : l.length ≤ 1000) (hne : l ≠ []) : PCr prog 96 [.d (.sl (natsD l))] [.arr 1 false (natsD l)] (.ref 0 l.length 0 l.length) := by
  refine PCr.of_body tt_ok (fn := f96) (rs := [.tmp 2]) 1 rfl rfl rfl rfl rfl rfl ?_
  refine AWP.run (fun k => k == 5) tt_ok (fun _ h => nomatch h) (Nat.zero_le _) rfl ?_
  obtain ⟨x, r, rfl⟩ := List.exists_cons_of_ne_nil hne
  have hsz := sized_nats (x :: r)
  have h1 : r.length + 1 ≤ 4294967296 := by simp at hl; omega
  have hlen := natsD_len r
  simp only [natsD, List.map_cons] at hsz hlen
  simp only [go_sem, natsD, bin_eql_cons, hsz, h1]

/-- What comes of giving the plates that are left to fillings. -/
def fillF : Nat → List Nat → List Nat → List (List Nat × List Nat)
  | 0, l, fills => [(l, fills)]
  | r + 1, l, fills => (List.range fills.length).flatMap fun i => fillF r (l ++ [i]) (fills.set i (fills.getD i 0 ||| 2 ^ l.length))

def fillI (p : List Nat × List Nat) : List V := [.d (.sl (natsD p.1)), .d (.sl (natsD p.2))]

def fillV (b : Bath) (l fills : List Nat) : V := .fn (.func 110) [] [.pp [.sl (natsD l)], .pp [.int .i64 b.str.lo, .int .i64 b.str.hi, .sl (b.plates.map Plate.d)], .pp [.sl (natsD fills)]]

theorem c85 (b : Bath) (l fills : List Nat) : PC prog 85 [.d b.d, .d (.sl (natsD l)), .d (.sl (natsD fills))] (fillV b l fills) := by
  refine PC.run (fun _ => false) tt_ok (fn := f85) (rs := [.tmp 6]) rfl rfl rfl rfl rfl rfl rfl ?_
  simp only [go_sem, Bath.d, fillV]
end Go.Aw
end

section
set_option maxRecDepth 100000
namespace Go.Aw
open Go Go.Proofs.Try

section
variable {n : Nat} {Hs : Heap} (hn : Hs.length = n)
include hn
theorem hy0 (Y : Heap) : (Hs ++ Y)[n]? = Y[0]? := by rw [List.getElem?_append_right (by omega), hn, Nat.sub_self]
theorem hy1 (Y : Heap) : (Hs ++ Y)[n + 1]? = Y[1]? := by rw [List.getElem?_append_right (by omega), hn]; congr 1; omega
theorem hy2 (Y : Heap) : (Hs ++ Y)[n + 2]? = Y[2]? := by rw [List.getElem?_append_right (by omega), hn]; congr 1; omega
theorem hs0 (Y : Heap) (X : Blk) : (Hs ++ Y).set n X = Hs ++ Y.set 0 X := by rw [List.set_append_right _ _ (by omega), hn, Nat.sub_self]
theorem hs1 (Y : Heap) (X : Blk) : (Hs ++ Y).set (n + 1) X = Hs ++ Y.set 1 X := by rw [List.set_append_right _ _ (by omega), hn]; congr 2; omega
theorem hs2 (Y : Heap) (X : Blk) : (Hs ++ Y).set (n + 2) X = Hs ++ Y.set 2 X := by rw [List.set_append_right _ _ (by omega), hn]; congr 2; omega
theorem htk (Y : Heap) : (Hs ++ Y).take n = Hs := by rw [← hn]; simp
theorem hyl (Y : Heap) : (Hs ++ Y).length = n + Y.length := by simp [hn]
end

/-- A call of yield with more blocks behind. -/
theorem yield_frame {yv : V} {n : Nat} {I : List (List V) → Heap → Prop} {Q : V → Heap → Prop} (hyv : VB n yv = true) (hI : ∀ l H, I l H → H.length = n ∧ BBs n H)
    (hy : ∀ a r H, I (a :: r) H → ACallV prog yv a H (fun v H' => (v = .d (.bool true) ∧ I r H') ∨ (v = .d (.bool false) ∧ H'.length = n ∧ BBs n H' ∧ Q (.tup []) H')))
    {a : List V} {r : List (List V)} {H : Heap} (X : Heap) (ha : VBs n a = true) (h : I (a :: r) H) :
    ACallV prog yv a (H ++ X) (fun v H' => ∃ H1, H' = H1 ++ X ∧ H1.length = n ∧ BBs n H1 ∧ ((v = .d (.bool true) ∧ I r H1) ∨ (v = .d (.bool false) ∧ Q (.tup []) H1))) := by
  obtain ⟨hl, hb⟩ := hI _ _ h
  refine (ACallV.frame (fun id x hx => BB_le (by omega) (BBs_get hb id x hx)) (by rw [hl]; exact hyv) (by rw [hl]; exact ha) (fun v H' hv => ?_) (hy _ _ _ h)).mono ?_
  · rcases hv with ⟨_, k⟩ | ⟨_, k, _⟩
    · rw [(hI _ _ k).1, hl]
    · rw [k, hl]
  · rintro v H' ⟨H1, rfl, ⟨k1, k2⟩ | ⟨k1, k2, k3, k4⟩⟩
    · exact ⟨H1, rfl, (hI _ _ k2).1, (hI _ _ k2).2, .inl ⟨k1, k2⟩⟩
    · exact ⟨H1, rfl, k2, k3, .inr ⟨k1, k4⟩⟩

theorem c110 {b : Bath} (hb : b.plates.length ≤ 5) : ∀ (r : Nat) (l fills : List Nat), l.length + r = b.plates.length → fills.length ≤ 100 → (∀ x ∈ fills, x < 2 ^ 62) → Iter prog (fillV b l fills) ((fillF r l fills).map fillI) := by
  intro r
  induction r with
  | zero =>
    intro l fills hlr hfl hfb yv n I Q hf hyv hI hy hend H hH
    have hHl := (hI _ _ hH).1
    have hHb := (hI _ _ hH).2
    obtain ⟨f, x, y, rfl⟩ := hf
    refine ACallV.of rfl ?_
    refine ACalls.run (fun _ => false) tt_ok (fn := f110) (rs := []) rfl rfl rfl rfl rfl rfl rfl ?_
    have hll : (natsD l).length = l.length := natsD_len l
    have hc : decide (((natsD l).length : Int) = (b.plates.length : Int)) = true := by simp; omega
    simp only [go_sem, hHl, hy0 hHl, hc]
    refine (yield_frame hyv hI hy (r := []) [.cells [.fn f x y]] rfl hH).mono ?_
    rintro v H' ⟨H1, rfl, k1, k2, k3⟩
    have hq : Q (.tup []) H1 := by
      rcases k3 with ⟨_, k3⟩ | ⟨_, k3⟩
      · exact hend _ k3
      · exact k3
    simp only [go_sem, hHl, htk k1]
    exact ⟨.inr k2, hq⟩
  | succ r ih =>
    intro l fills hlr hfl hfb yv n I Q hf hyv hI hy hend H hH
    have hHl := (hI _ _ hH).1
    have hHb := (hI _ _ hH).2
    obtain ⟨f, x, y, rfl⟩ := hf
    refine ACallV.of rfl ?_
    refine ACalls.run (fun _ => false) tt_ok (fn := f110) (rs := []) rfl rfl rfl rfl rfl rfl rfl ?_
    have hll : (natsD l).length = l.length := natsD_len l
    have hfll : (natsD fills).length = fills.length := natsD_len fills
    have hc : decide (((natsD l).length : Int) = (b.plates.length : Int)) = false := by simp; omega
    simp only [go_sem, hHl, hy0 hHl, hc]
    have hbV : ∀ k : Nat, VB k (.ptr n 0) = decide (n < k) := fun k => rfl
    refine ALoop.by (S := Nat × Heap) (fun s => [(22, .d (.int .i64 s.1)), (21, .d (.int .i64 fills.length)), (4, .ptr n 0), (3, .pp [.sl (natsD fills)]), (2, .pp [.int .i64 b.str.lo, .int .i64 b.str.hi, .sl (b.plates.map Plate.d)]), (1, .pp [.sl (natsD l)])])
      (fun s => s.2 ++ [.cells [.fn f x y]]) (fun s => fills.length - s.1)
      (fun s => s.1 ≤ fills.length ∧ I (((((List.range fills.length).drop s.1).flatMap fun i => fillF r (l ++ [i]) (fills.set i (fills.getD i 0 ||| 2 ^ l.length)))).map fillI) s.2) (0, H) (by simp) (fun _ h => nomatch h) ⟨Nat.zero_le _, hH⟩ ?_ ?_
    · exact ForgetTo.same' (by simp) (by simp [EWe, Env.look, hfll]) (by simp)
    rintro ⟨i, Hc⟩ ⟨hi, hI0⟩ hn'
    simp only at hi hI0 hn' ⊢
    have hcl := (hI _ _ hI0).1
    have hcb := (hI _ _ hI0).2
    refine AWP.run (fun _ => false) tt_ok (fun _ h => nomatch h) (by simp; omega) rfl ?_
    simp only [go_sem]
    refine Br_split (fun hd => ?_) (fun hd => ?_) <;> simp only [go_sem, hd]
    · have hlt : i < fills.length := by simpa using hd
      refine (c96 fills (by omega) (by intro e; rw [e] at hlt; simp at hlt)).call rfl rfl rfl ?_
      simp only [go_sem, hyl hcl, List.append_assoc]
      have hfi : (natsD fills)[i]? = some (.int .i64 (fills[i] : Nat)) := by simp [natsD, List.getElem?_eq_getElem hlt]
      have hfi2 : fills[i] < 2 ^ 62 := hfb _ (List.getElem_mem hlt)
      have hpw : 2 ^ l.length < 2 ^ 62 := Nat.pow_lt_pow_right (by omega) (by omega)
      have c1 : (0 : Int) ≤ (i : Int) := by omega
      have c2 : (i : Int) < (fills.length : Int) := by omega
      have hor : orI .i64 (fills[i] : Nat) ((2 ^ l.length : Nat) : Int) = ((fills[i] ||| 2 ^ l.length : Nat) : Int) := orN (by omega) (by omega)
      have hset : (natsD fills).set i (.int .i64 ((fills[i] ||| 2 ^ l.length : Nat) : Int)) = natsD (fills.set i (fills[i] ||| 2 ^ l.length)) := by simp [natsD, List.map_set]
      have hnl : (fills.set i (fills[i] ||| 2 ^ l.length)).length = fills.length := by simp
      have hnb : ∀ x ∈ fills.set i (fills[i] ||| 2 ^ l.length), x < 2 ^ 62 := by
        intro x hx
        rcases List.mem_or_eq_of_mem_set hx with hx | rfl
        · exact hfb x hx
        · exact Nat.or_lt_two_pow hfi2 hpw
      refine ADrw.treeG (fun _ => false) tt_ok (by kernel_rfl) (fun k => if k = 2 ∨ k = 3 ∨ k = 4 ∨ k = 5 ∨ k = 8 then some .L else if k = 9 then some .W else some .S) (.ones [0, 1, 2, 3, 4, 5, 6, 7, 8, 9] .done) (by simp; omega) (fun _ h => nomatch h) rfl rfl (by kernel_rfl) ?_
      simp only [go_sem, hy0 hcl, hy1 hcl, hs0 hcl, hs1 hcl, hyl hcl, List.append_assoc, hfi, hfll, hll, c1, c2, Int.toNat_natCast, shlN (show l.length < 63 by omega), hor, hset]
      have hgd : fills.getD i 0 = fills[i] := by rw [List.getD_eq_getElem?_getD, List.getElem?_eq_getElem hlt]; rfl
      rw [List.drop_eq_getElem_cons (by simpa using hlt), List.flatMap_cons, List.map_append, List.getElem_range, hgd] at hI0
      generalize fills.set i (fills[i] ||| 2 ^ l.length) = next at hnl hnb hI0
      have hnxl := natsD_len next
      have htn : (next.map fun k : Nat => D.int .i64 (k : Int)).take fills.length = next.map fun k : Nat => D.int .i64 (k : Int) := List.take_of_length_le (by simp [hnl])
      refine ADrw.treeG (fun _ => false) tt_ok (by kernel_rfl) (fun k => if k = 0 ∨ k = 1 then some .L else if k = 7 then some .W else some .S) (.ones [0, 1, 2, 3, 4, 5, 6, 7] .done) (by simp; omega) (fun _ h => nomatch h) rfl rfl (by kernel_rfl) ?_
      simp only [go_sem, hy0 hcl, hy1 hcl, hs0 hcl, hs1 hcl, hyl hcl, List.append_assoc]
      refine (c111 (natsD l) (sized_nats l)).callS rfl rfl rfl rfl rfl rfl ?_
      have hsz := sized_nats l
      have hle : l.length + 1 ≤ 4294967296 := by omega
      simp only [go_sem, hy0 hcl, hy1 hcl, hs0 hcl, hs1 hcl, hyl hcl, List.append_assoc, hsz, hle, hll]
      refine PC.callF (n + 1) (c85 b (l ++ [i]) next) (hy1 hcl _) rfl (by simp [frzVs, frzV, Bath.d, dz, natsD, hnl, htn]) rfl rfl ?_
      simp only [go_sem, hy0 hcl, hy1 hcl, hs0 hcl, hs1 hcl, hyl hcl, List.append_assoc]
      generalize hrem : ((((List.range fills.length).drop (i + 1)).flatMap fun i => fillF r (l ++ [i]) (fills.set i (fills.getD i 0 ||| 2 ^ l.length))).map fillI) = rem at hI0
      have hBy : ∀ H1 : Heap, H1.length = n → BBs n H1 → BBs (n + 2) (H1 ++ [.cells [.fn f x y], .arr 1 false (natsD next ++ [.nilp])]) := fun H1 h1 h2 =>
        BBs_append (BBs_le (by omega) h2) ⟨by simp only [BB, VBs, Bool.and_true]; exact VB_le (by omega) _ hyv, trivial, trivial⟩
      refine ARng.iter (items := (fillF r (l ++ [i]) next).map fillI) (J := fun rest Hx => ∃ H1, Hx = H1 ++ [.cells [.fn f x y], .arr 1 false (natsD next ++ [.nilp])] ∧ I (rest ++ rem) H1)
        (by simp; omega) (fun _ h => nomatch h) rfl (ih (l ++ [i]) next (by simp; omega) (by omega) hnb) rfl (by simp [VBs, VB, fillV, hcl]) ?_ ?_ ?_ ?_ ?_
      · rintro rest Hx ⟨H1, rfl, h1⟩
        obtain ⟨k1, k2⟩ := hI _ _ h1
        simp only [hyl k1, hyl hcl, List.length_cons, List.length_nil]
        exact ⟨trivial, hBy H1 k1 k2⟩
      · exact ⟨Hc, rfl, hI0⟩
      · rintro Hx ⟨H1, rfl, h1⟩
        obtain ⟨k1, k2⟩ := hI _ _ h1
        simp only [go_sem, hHl]
        refine ⟨(i + 1, H1), ⟨hlt, ?_⟩, by simp only; omega, ?_⟩
        · rw [List.nil_append] at h1
          rw [hrem]; exact h1
        · rw [show H1 ++ [Blk.cells [V.fn f x y], Blk.arr 1 false (natsD next ++ [D.nilp])] = (H1 ++ [Blk.cells [V.fn f x y]]) ++ [Blk.arr 1 false (natsD next ++ [D.nilp])] by simp]
          refine ForgetTo.drop (by simp; omega) rfl ?_ ?_
          · simp only [hyl k1, List.length_cons, List.length_nil]
            exact BBs_append (BBs_le (by omega) k2) ⟨by simp only [BB, VBs, Bool.and_true]; exact VB_le (by omega) _ hyv, trivial⟩
          · simp [EWp, Env.look, pubV, k1, w64 (n := (i : Int) + 1) (by omega) (by omega)]
      · intro xs hxs
        obtain ⟨p, _, rfl⟩ := List.mem_map.1 hxs
        rfl
      · rintro L L' xs rest' Hx hxs ⟨H1, rfl, h1⟩
        obtain ⟨p, _, rfl⟩ := List.mem_map.1 hxs
        obtain ⟨k1, k2⟩ := hI _ _ h1
        refine AWP.run (fun _ => false) tt_ok (fun _ h => by cases h; simp) (by simp; omega) rfl ?_
        simp only [go_sem, fillI, hyl hcl, List.append_assoc, hy2 k1, hs2 k1]
        refine AWP.run (fun _ => false) tt_ok (fun _ h => by cases h; simp) (by simp; omega) rfl ?_
        simp only [go_sem, hyl hcl, List.append_assoc, hy0 k1, hy1 k1, hy2 k1, hs2 k1]
        refine (yield_frame hyv hI hy (r := rest' ++ rem) [.cells [.fn f x y], .arr 1 false (natsD next ++ [.nilp]), L'] rfl h1).mono ?_
        rintro v H' ⟨H2, rfl, m1, m2, hv⟩
        have ht2 : (H2 ++ [Blk.cells [V.fn f x y], Blk.arr 1 false (natsD next ++ [D.nilp]), L']).take (n + 2) = H2 ++ [Blk.cells [V.fn f x y], Blk.arr 1 false (natsD next ++ [D.nilp])] := by
          rw [← m1, List.take_append, List.take_of_length_le (by omega)]; simp
        rcases hv with ⟨rfl, m3⟩ | ⟨rfl, m3⟩
        · simp only [go_sem, hy2 m1, ht2]
          exact ⟨hBy H2 m1 m2, H2, rfl, m3⟩
        · simp only [go_sem, hy2 m1, ht2]
          rw [hHl, htk m1]
          exact ⟨hBy H2 m1 m2, .inr m2, m3⟩
    · have hnl : ¬ i < fills.length := by simpa using hd
      rw [List.drop_eq_nil_of_le (by simp; omega)] at hI0
      simp only [go_sem, hHl, htk hcl]
      exact ⟨.inr hcb, hend _ hI0⟩
end Go.Aw
end

section
set_option maxRecDepth 100000
namespace Go.Aw
open Go Go.Proofs.Try

/-- Have some plates an order? -/
def wellP (b : Bath) (set : Nat) : Bool := (bestOf b set).found

/-- What is known. -/
def cache (b : Bath) (M : List Nat) : List (D × D) := M.map fun k : Nat => (.int .i64 (k : Int), .bool (wellP b k))

def insN (M : List Nat) (k : Nat) : List Nat := if k ∈ M then M else M ++ [k]

theorem cache_find (b : Bath) (k : Nat) : ∀ M : List Nat, mfind (.int .i64 (k : Int)) (cache b M) = some (if k ∈ M then some (.bool (wellP b k)) else none)
  | [] => rfl
  | a :: M => by
    simp only [cache, List.map_cons, mfind, keq, if_true]
    by_cases h : k = a
    · subst h; simp
    · have hb : ((k : Int) == (a : Int)) = false := by simp; omega
      have ih := cache_find b k M
      simp only [cache] at ih
      rw [hb]
      simp only [ih, List.mem_cons, h, false_or]

theorem cache_put (b : Bath) (k : Nat) : ∀ M : List Nat, k ∉ M → mput (.int .i64 (k : Int)) (.bool (wellP b k)) (cache b M) = some (cache b (M ++ [k]))
  | [], _ => rfl
  | a :: M, hk => by
    simp only [List.mem_cons, not_or] at hk
    simp only [cache, List.map_cons, List.cons_append, mput, keq, if_true]
    have hb : ((k : Int) == (a : Int)) = false := by simp; omega
    have ih := cache_put b k M hk.2
    simp only [cache] at ih
    rw [hb]
    simp only [ih]

theorem set_same {H : Heap} {i : Nat} {x : Blk} (h : H[i]? = some x) : H.set i x = H := by
  apply List.ext_getElem?
  intro j
  rw [List.getElem?_set]
  split
  · rename_i e; subst e
    rw [if_pos (lt_of_getElem? h), h]
  · rfl

theorem c84 {b : Bath} (hok : b.Ok) {set : Nat} (hs : set ≤ 31) {M : List Nat} {H : Heap} (hbb : BBs H.length H) (h3 : H[3]? = some (.cells [.d (.int .i64 b.str.lo), .d (.int .i64 b.str.hi), .d (.sl (b.plates.map Plate.d))])) (h4 : H[4]? = some (.obj (.map (cache b M)))) (h5 : H[5]? = some (.cells [.obj 4]))
    {Q : V → Heap → Prop} (hq : Q (.d (.bool (wellP b set))) (H.set 4 (.obj (.map (cache b (insN M set)))))) : ACalls prog 84 [.d (.int .i64 set), .ptr 5 0, .ptr 3 0] H Q := by
  have hl4 := lt_of_getElem? h4
  have hl5 := lt_of_getElem? h5
  refine ACalls.run (fun k => k == 17) tt_ok (fn := f84) (rs := [.tmp 4]) rfl rfl rfl rfl rfl rfl rfl ?_
  by_cases hm : set ∈ M
  · have hf : mfind (.int .i64 (set : Int)) (cache b M) = some (some (.bool (wellP b set))) := by rw [cache_find, if_pos hm]
    simp only [go_sem, h3, h4, h5, hf]
    rw [insN, if_pos hm, set_same h4] at hq
    exact hq
  · have hf : mfind (.int .i64 (set : Int)) (cache b M) = some none := by rw [cache_find, if_neg hm]
    simp only [go_sem, h3, h4, h5, hf]
    have key := fun Q => c83 hok 31 set [] 0 0 ⟨[], 0, false⟩ (H ++ [stB b ⟨[], 0, false⟩]) H.length (by simp) (BBs_append (BBs_le (by simp) hbb) ⟨BB_stB _ _ _, trivial⟩) hs (by omega) (by simp) (by omega) (by omega) Q
    have hset : ∀ X Y : Blk, (H ++ [X]).set H.length Y = H ++ [Y] := fun X Y => by simp
    have hg4 : ∀ Y : Blk, (H ++ [Y])[4]? = some (.obj (.map (cache b M))) := fun Y => by rw [List.getElem?_append_left hl4, h4]
    have hg5 : ∀ Y : Blk, (H ++ [Y])[5]? = some (.cells [.obj 4]) := fun Y => by rw [List.getElem?_append_left hl5, h5]
    simp only [hset] at key
    refine ACallV.of rfl (key _ ?_)
    have hwp : wellP b set = (bestOf b set).found := rfl
    have hput := cache_put b set M hm
    rw [insN, if_neg hm] at hq
    rw [hwp] at hq
    rw [hwp] at hput
    simp only [bestOf] at hput hq
    generalize onF b 31 set [] 0 0 ⟨[], 0, false⟩ = s at hput hq ⊢
    have hgN : ∀ Y : Blk, (H ++ [Y])[H.length]? = some Y := fun Y => by simp
    simp only [stB, go_sem, hg4, hg5, hgN, hput, List.set_append_left _ _ hl4]
    have ht : ∀ Y : Blk, List.take H.length (H.set 4 (.obj (.map (cache b (M ++ [set])))) ++ [Y]) = H.set 4 (.obj (.map (cache b (M ++ [set])))) := fun Y => by
      rw [List.take_append_of_le_length (by simp)]; exact List.take_of_length_le (by simp)
    rw [ht]
    exact ⟨.inr (BBs_set hbb (by simp [BB])), hq⟩
end Go.Aw
end

section
set_option maxRecDepth 100000
namespace Go.Aw
open Go Go.Proofs.Try

theorem bit_lt {x k : Nat} (h : x < 2 ^ k) : x ||| 2 ^ k < 2 ^ (k + 1) :=
  Nat.or_lt_two_pow (Nat.lt_of_lt_of_le h (Nat.pow_le_pow_right (by omega) (by omega))) (Nat.pow_lt_pow_right (by omega) (by omega))

/-- Sets of plates, each less than two to the number of plates. -/
theorem fillF_lt : ∀ (r : Nat) (l fills : List Nat), (∀ x ∈ fills, x < 2 ^ l.length) → ∀ p ∈ fillF r l fills, ∀ x ∈ p.2, x < 2 ^ (l.length + r)
  | 0, l, fills, h, p, hp => by
    simp only [fillF, List.mem_singleton] at hp
    subst hp
    exact h
  | r + 1, l, fills, h, p, hp => by
    simp only [fillF, List.mem_flatMap, List.mem_range] at hp
    obtain ⟨i, hi, hp⟩ := hp
    have := fillF_lt r (l ++ [i]) _ (fun x hx => ?_) p hp
    · rw [show l.length + (r + 1) = (l ++ [i]).length + r by simp; omega]; exact this
    · rw [List.length_append, List.length_singleton]
      rcases List.mem_or_eq_of_mem_set hx with hx | rfl
      · exact Nat.lt_of_lt_of_le (h x hx) (Nat.pow_le_pow_right (by omega) (by omega))
      · refine bit_lt ?_
        rw [List.getD_eq_getElem?_getD, List.getElem?_eq_getElem hi]
        exact h _ (List.getElem_mem hi)

/-- The ways to give the plates to so many fillings. -/
def fillG (b : Bath) (many : Nat) : List (List Nat × List Nat) := fillF b.plates.length [] (List.replicate many 0)

theorem fillG_lt {b : Bath} (hb : b.plates.length ≤ 5) {many : Nat} {p : List Nat × List Nat} (hp : p ∈ fillG b many) : ∀ x ∈ p.2, x ≤ 31 := by
  intro x hx
  have := fillF_lt _ [] _ (fun x hx => by simp [List.eq_of_mem_replicate hx]) p hp x hx
  have h2 : 2 ^ (0 + b.plates.length) ≤ 2 ^ 5 := Nat.pow_le_pow_right (by omega) (by omega)
  simp only [List.length_nil] at this
  omega

theorem fillF_len : ∀ (r : Nat) (l fills : List Nat), ∀ p ∈ fillF r l fills, p.2.length = fills.length
  | 0, l, fills, p, hp => by
    simp only [fillF, List.mem_singleton] at hp
    subst hp
    rfl
  | r + 1, l, fills, p, hp => by
    simp only [fillF, List.mem_flatMap, List.mem_range] at hp
    obtain ⟨i, hi, hp⟩ := hp
    rw [fillF_len r _ _ p hp, List.length_set]

theorem all_take {f : Nat → Bool} {l : List Nat} {i : Nat} (h : (l.take i).all f = true) {x : Nat} (hx : l[i]? = some x) (hf : f x = true) : (l.take (i + 1)).all f = true := by
  rw [List.take_add_one, hx]; simp [List.all_append, h, hf]

def okF (b : Bath) (p : List Nat × List Nat) : Bool := p.2.all (wellP b)

def fillFirst (b : Bath) : Option (List Nat × List Nat) := ((List.range (b.plates.length + 1)).flatMap (fillG b)).find? (okF b)

def fillingsV (b : Bath) : V :=
  if checkP b = 0 then (match fillFirst b with | some p => .tup [.d (.sl (natsD p.1)), .d (.int .i64 0)] | none => .tup [.slx (some true) [], .d (.int .i64 9)]) else .tup [.slx (some true) [], .d (.int .i64 (checkP b))]

/-- The heap of Fillings. -/
def hF (b : Bath) (M : List Nat) (v : V) (e : Int) : Heap :=
  [.cells [.d (.int .i64 b.str.lo), .d (.int .i64 b.str.hi), .d (.sl (b.plates.map Plate.d))], .cells [v], .cells [.d (.int .i64 e)],
    .cells [.d (.int .i64 b.str.lo), .d (.int .i64 b.str.hi), .d (.sl (b.plates.map Plate.d))], .obj (.map (cache b M)), .cells [.obj 4], .cells [.fn (.func 84) [] [.ptr 5 0, .ptr 3 0]]]

theorem c38 (b : Bath) (hb : b.plates.length ≤ 4294967296) : PC prog 38 [.d b.d] (fillingsV b) := by
  refine PC.run (fun k => false) tt_ok (fn := f38) (rs := [.cell 2 27, .cell 3 30]) rfl rfl rfl rfl rfl rfl rfl ?_
  simp only [go_sem, Bath.d]
  refine (c76 b hb).call rfl rfl rfl ?_
  simp only [go_sem, Bath.d]
  refine Br_split (fun hc => ?_) (fun hc => ?_) <;> simp only [go_sem, hc]
  · have h0 : ¬ checkP b = 0 := by simpa using hc
    simp [fillingsV, h0]
  have h0 : checkP b = 0 := by simpa using hc
  have hok := checkP_iff.1 h0
  have hok' := hok
  obtain ⟨_, _, _, hb5, _⟩ := hok'
  have hw : IntKind.i64.wrap ((b.plates.length : Int) + 1) = ((b.plates.length + 1 : Nat) : Int) := by rw [w64 (by omega) (by omega)]; omega
  simp only [go_sem, hw]
  refine ALoop.by (S := Nat × List Nat) (fun s => [(28, .d (.int .i64 s.1)), (27, .d (.int .i64 (b.plates.length + 1 : Nat))), (7, .ptr 6 0), (4, .ptr 3 0), (3, .ptr 2 0), (2, .ptr 1 0)])
    (fun s => hF b s.2 (.slx (some true) []) 0) (fun s => b.plates.length + 1 - s.1)
    (fun s => s.1 ≤ b.plates.length + 1 ∧ fillFirst b = (((List.range (b.plates.length + 1)).drop s.1).flatMap (fillG b)).find? (okF b)) (0, []) (by simp) (fun _ h => nomatch h) ⟨Nat.zero_le _, rfl⟩ ?_ ?_
  · exact ForgetTo.same' (by simp) (by simp [EWe, Env.look]) (by simp [hF, cache])
  rintro ⟨many, M⟩ ⟨hm, hfst⟩ hn'
  simp only at hm hfst hn' ⊢
  refine AWP.run (fun _ => false) tt_ok (fun _ h => nomatch h) (by simp) rfl ?_
  simp only [go_sem]
  refine Br_split (fun hd => ?_) (fun hd => ?_) <;> simp only [go_sem, hd]
  · have hlt : many < b.plates.length + 1 := by simp only [decide_eq_true_eq] at hd; omega
    have hmk : (0 : Int) ≤ (many : Int) := by omega
    have hml : (many : Int) ≤ 4294967296 := by omega
    refine ADrw.treeG (fun _ => false) tt_ok (by kernel_rfl) (fun k => if k = 0 then some .L else if k = 2 then some .A else some .S) (.ones [0, 1, 2, 3] .done) (by simp) (fun _ h => nomatch h) rfl rfl (by kernel_rfl) ?_
    simp only [go_sem, hF, hmk, hml, Int.toNat_natCast]
    refine (c85 b [] (List.replicate many 0)).callS (by simp [natsD, dz, Bath.d]) rfl rfl rfl rfl rfl ?_
    simp only [go_sem]
    rw [List.drop_eq_getElem_cons (by simpa using hlt), List.flatMap_cons, List.find?_append, List.getElem_range] at hfst
    refine ARng.iter (items := (fillG b many).map fillI) (J := fun rest Hx => ∃ (M : List Nat) (pre : List (List Nat × List Nat)), Hx = hF b M (.slx (some true) []) 0 ∧ rest = pre.map fillI ∧ (∀ p ∈ pre, p ∈ fillG b many) ∧ (fillG b many).find? (okF b) = pre.find? (okF b))
      (by simp) (fun _ h => nomatch h) rfl (c110 hb5 b.plates.length [] (List.replicate many 0) (by simp) (by simp; omega) (by intro x hx; rw [List.eq_of_mem_replicate hx]; decide)) rfl (by simp [VBs, VB, fillV]) ?_ ?_ ?_ ?_ ?_
    · rintro rest Hx ⟨M1, pre, rfl, _, _, _⟩
      exact ⟨rfl, by simp [hF, BBs, BB, VBs, VB]⟩
    · exact ⟨M, _, rfl, rfl, fun _ h => h, rfl⟩
    · rintro Hx ⟨M1, pre, rfl, hp, _, hf1⟩
      obtain rfl : pre = [] := by simpa using hp.symm
      simp only [go_sem]
      refine ⟨(many + 1, M1), ⟨by omega, ?_⟩, by simp only; omega, ?_⟩
      · rw [hfst, hf1]; simp [List.range_succ]
      · exact ForgetTo.same' (by simp) (by simp [EWe, Env.look, w64 (n := (many : Int) + 1) (by omega) (by omega)]) rfl
    · intro xs hxs
      obtain ⟨p, _, rfl⟩ := List.mem_map.1 hxs
      rfl
    · rintro L L' xs rest Hx hxs ⟨M1, pre, rfl, hp, hpm, hf1⟩
      obtain ⟨p, rest', rfl⟩ : ∃ p rest', pre = p :: rest' := by cases pre with
        | nil => cases hp
        | cons p r => exact ⟨p, r, rfl⟩
      obtain ⟨rfl, rfl⟩ : xs = fillI p ∧ rest = rest'.map fillI := by simpa using hp
      refine AWP.run (fun _ => false) tt_ok (fun _ h => by cases h; simp) (by simp [hF]) rfl ?_
      simp only [go_sem, fillI, hF]
      refine AWP.run (fun _ => false) tt_ok (fun _ h => by cases h; simp) (by simp) rfl ?_
      simp only [go_sem]
      have hpl : p.2.length = many := by rw [fillF_len _ _ _ p (hpm p List.mem_cons_self)]; simp
      have hp31 := fillG_lt hb5 (hpm p List.mem_cons_self)
      have hnl := natsD_len p.2
      refine ALoop.by (S := Nat × List Nat) (fun s => [(39, .d (.int .i64 s.1)), (38, .d (.int .i64 p.2.length)), (37, .d (.sl (natsD p.2))), (9, .d (.sl (natsD p.1))), (7, .ptr 6 0), (3, .ptr 2 0), (2, .ptr 1 0)])
        (fun s => hF b s.2 (.slx (some true) []) 0 ++ [L']) (fun s => p.2.length - s.1) (fun s => s.1 ≤ p.2.length ∧ (p.2.take s.1).all (wellP b) = true) (0, M1) (by simp) (fun _ h => by cases h; simp) ⟨Nat.zero_le _, rfl⟩ ?_ ?_
      · exact ForgetTo.same' (by simp [hF]) (by simp [EWe, Env.look, hnl]) rfl
      rintro ⟨i, M2⟩ ⟨hi, hall⟩ hn2
      simp only at hi hall hn2 ⊢
      refine AWP.run (fun _ => false) tt_ok (fun _ h => by cases h; simp) (by simp [hF]) rfl ?_
      simp only [go_sem]
      refine Br_split (fun he => ?_) (fun he => ?_) <;> simp only [go_sem, he]
      · have hil : i < p.2.length := by simpa using he
        have hix : idx? (natsD p.2) (i : Int) = some (.int .i64 (p.2[i] : Nat)) := by simp [idx?, natsD, List.getElem?_eq_getElem hil]
        simp only [go_sem, hix, hF]
        have hx31 := hp31 _ (List.getElem_mem hil)
        have hgx : p.2[i]? = some p.2[i] := List.getElem?_eq_getElem hil
        generalize p.2[i] = x at hx31 hgx
        have hbf : BBs 7 (hF b M2 (.slx (some true) []) 0) := by simp [hF, BBs, BB, VBs, VB]
        refine (ACallV.frame (H := hF b M2 (.slx (some true) []) 0) (X := [L']) (Q := fun v H' => v = .d (.bool (wellP b x)) ∧ H' = hF b (insN M2 x) (.slx (some true) []) 0) (fun id y hy => BBs_get hbf id y hy) rfl rfl (by rintro v H' ⟨_, rfl⟩; rfl) (ACallV.of rfl (c84 hok hx31 (H := hF b M2 (.slx (some true) []) 0) (M := M2) hbf rfl rfl rfl ⟨rfl, rfl⟩))).mono ?_
        rintro v H' ⟨H1, rfl, rfl, rfl⟩
        simp only [go_sem, hF]
        refine Br_split (fun hw2 => ?_) (fun hw2 => ?_) <;> simp only [go_sem, hw2]
        · have hw3 : wellP b x = false := by simpa using hw2
          refine ⟨insN M2 x, rest', rfl, rfl, fun q hq => hpm q (List.mem_cons_of_mem _ hq), ?_⟩
          rw [hf1, List.find?_cons_of_neg]
          simp only [okF, List.all_eq_true]
          intro hh
          have := hh x (List.mem_of_getElem? hgx)
          rw [hw3] at this
          cases this
        · have hw3 : wellP b x = true := by simpa using hw2
          refine ⟨(i + 1, insN M2 x), ⟨hil, all_take hall hgx hw3⟩, by simp only; omega, ?_⟩
          exact ForgetTo.same' (by simp [hF]) (by simp [EWe, Env.look, w64 (n := (i : Int) + 1) (by omega) (by omega)]) rfl
      · have hie : i = p.2.length := by simp only [decide_eq_false_iff_not] at he; omega
        subst hie
        rw [List.take_length] at hall
        rw [List.find?_cons_of_pos (by simpa [okF] using hall)] at hf1
        simp only [go_sem, hF]
        rw [hf1] at hfst
        simp [fillingsV, h0, hfst]
  · have hme : many = b.plates.length + 1 := by simp only [decide_eq_false_iff_not] at hd; omega
    rw [List.drop_eq_nil_of_le (by simp [hme])] at hfst
    simp only [go_sem, hF]
    simp [fillingsV, h0, hfst]
end Go.Aw
end

section
set_option maxRecDepth 100000
namespace Go.Aw
open Go Go.Proofs.Try

/-- An acid to mix. -/
structure Acid where
  str : Sp
  oz : Int
deriving DecidableEq

def Acid.d (a : Acid) : D := .agg [.int .i64 a.str.lo, .int .i64 a.str.hi, .int .i64 a.oz]

theorem enc_acid : Enc 3 (Tt 75) Acid.d := fun x => ⟨rfl, rfl⟩

def badAcid (a : Acid) : Bool := !(within 0 40 [a.str.lo, a.str.hi] && decide (a.str.lo ≤ a.str.hi)) || !within 1 200 [a.oz]

theorem c113 (a : Acid) : PC prog 113 [.d a.d] (.d (.bool (badAcid a))) := by
  refine PC.run (fun _ => false) tt_ok (fn := f113) (rs := [.tmp 2]) rfl rfl rfl rfl rfl rfl rfl ?_
  simp only [go_sem, Acid.d]
  refine (c73 0 40 a.str).call rfl rfl rfl ?_
  simp only [go_sem]
  refine Br_split (fun hc => ?_) (fun hc => ?_)
  · simp only [go_sem, hc, badAcid, Bool.true_or]
  · simp only [go_sem, hc]
    refine (c74 1 200 [a.oz] (by simp)).call rfl rfl rfl ?_
    simp only [go_sem, hc, badAcid, Bool.false_or]

def Acid.Ok (a : Acid) : Prop := 0 ≤ a.str.lo ∧ a.str.lo ≤ a.str.hi ∧ a.str.hi ≤ 40 ∧ 1 ≤ a.oz ∧ a.oz ≤ 200

theorem badAcid_iff (a : Acid) : badAcid a = false ↔ a.Ok := by
  simp [badAcid, within, Acid.Ok]
  omega

/-- What is mixed so far. -/
structure Mixed where
  lo : Int
  hi : Int
  oz : Int
deriving DecidableEq

def Mixed.d (m : Mixed) : D := .agg [.int .i64 m.lo, .int .i64 m.hi, .int .i64 m.oz]

def Mixed.add (m : Mixed) (a : Acid) : Mixed := ⟨m.lo + a.str.lo * a.oz, m.hi + a.str.hi * a.oz, m.oz + a.oz⟩

def mixAll (l : List Acid) : Mixed := l.foldl Mixed.add ⟨0, 0, 0⟩

/-- The error of acids. -/
def acidsP (l : List Acid) : Int := if l.length > 5 then 5 else if l.length = 0 then 7 else if l.any badAcid = true then 2 else 0

def mixP (l : List Acid) : Mixed := if acidsP l = 0 then mixAll l else ⟨0, 0, 0⟩

theorem mix_bnd : ∀ (l : List Acid) (m : Mixed), (∀ a ∈ l, a.Ok) → 0 ≤ m.lo → m.lo ≤ m.hi → m.hi ≤ 40 * m.oz → 0 ≤ m.oz →
    0 ≤ (l.foldl Mixed.add m).lo ∧ (l.foldl Mixed.add m).lo ≤ (l.foldl Mixed.add m).hi ∧ (l.foldl Mixed.add m).hi ≤ 40 * (l.foldl Mixed.add m).oz ∧ m.oz + l.length ≤ (l.foldl Mixed.add m).oz ∧ (l.foldl Mixed.add m).oz ≤ m.oz + 200 * l.length
  | [], m, _, h1, h2, h3, h4 => by simp; omega
  | a :: r, m, hl, h1, h2, h3, h4 => by
    obtain ⟨k1, k2, k3, k4, k5⟩ := hl a List.mem_cons_self
    have p1 : 0 ≤ a.str.lo * a.oz := Int.mul_nonneg k1 (by omega)
    have p2 : a.str.lo * a.oz ≤ a.str.hi * a.oz := Int.mul_le_mul_of_nonneg_right k2 (by omega)
    have p3 : a.str.hi * a.oz ≤ 40 * a.oz := Int.mul_le_mul_of_nonneg_right k3 (by omega)
    have := mix_bnd r (m.add a) (fun x hx => hl x (List.mem_cons_of_mem _ hx)) (by simp only [Mixed.add]; omega) (by simp only [Mixed.add]; omega) (by simp only [Mixed.add]; omega) (by simp only [Mixed.add]; omega)
    simp only [List.foldl_cons, List.length_cons]
    simp only [Mixed.add] at this ⊢
    omega

theorem c90 (l : List Acid) (hl : l.length ≤ 4294967296) : PC prog 90 [.d (.sl (l.map Acid.d))] (.tup [.d (mixP l).d, .d (.int .i64 (acidsP l))]) := by
  refine PC.run (fun _ => false) tt_ok (fn := f90) (rs := [.cell 2 163, .tmp 3]) rfl rfl rfl rfl rfl rfl rfl ?_
  simp only [go_sem]
  refine Br_split (fun hc => ?_) (fun hc => ?_) <;> simp only [go_sem, hc]
  · have h1 : l.length > 5 := by simp at hc; omega
    simp [mixP, acidsP, h1, Mixed.d]
  have h1 : ¬ l.length > 5 := by simp at hc; omega
  refine Br_split (fun hd => ?_) (fun hd => ?_) <;> simp only [go_sem, hc, hd]
  · have h2 : l.length = 0 := by simp at hd; simp [hd]
    simp [mixP, acidsP, h1, h2, Mixed.d]
  have h2 : ¬ l.length = 0 := by simp at hd; simpa using hd
  refine ACallV.of rfl (c114 enc_acid l hl 113 [] [] badAcid (fun x _ Q h => (c113 x).call rfl rfl rfl h) ?_)
  simp only [go_sem]
  refine Br_split (fun he => ?_) (fun he => ?_) <;> simp only [go_sem, hc, hd, he]
  · simp [mixP, acidsP, h1, h2, he, Mixed.d]
  have h0 : acidsP l = 0 := by simp [acidsP, h1, h2, he]
  have hall : ∀ a ∈ l, a.Ok := fun a ha => (badAcid_iff a).1 (by
    have := List.any_eq_false.1 he a ha
    simpa using this)
  refine ALoop.by (S := Nat) (fun i => [(24, .d (.int .i64 i)), (23, .d (.int .i64 l.length)), (22, .d (.sl (l.map Acid.d))), (2, .ptr 0 0)])
    (fun i => [.cells [.d (.int .i64 ((l.take i).foldl Mixed.add ⟨0, 0, 0⟩).lo), .d (.int .i64 ((l.take i).foldl Mixed.add ⟨0, 0, 0⟩).hi), .d (.int .i64 ((l.take i).foldl Mixed.add ⟨0, 0, 0⟩).oz)]]) (fun i => l.length - i) (fun i => i ≤ l.length) 0 (by simp) (fun _ h => nomatch h) (Nat.zero_le _) ?_ ?_
  · exact ForgetTo.same' (by simp) (by simp [EWe, Env.look]) (by simp)
  rintro i hi hn
  refine AWP.run (fun _ => false) tt_ok (fun _ h => nomatch h) (by simp) rfl ?_
  simp only [go_sem]
  refine Br_split (fun hf => ?_) (fun hf => ?_) <;> simp only [go_sem, hf]
  · have hlt : i < l.length := by simpa using hf
    have hix : idx? (l.map Acid.d) (i : Int) = some (l[i]).d := by simp [idx?, List.getElem?_eq_getElem hlt]
    have hst : (l.take (i + 1)).foldl Mixed.add ⟨0, 0, 0⟩ = ((l.take i).foldl Mixed.add ⟨0, 0, 0⟩).add l[i] := by
      rw [List.take_add_one, List.getElem?_eq_getElem hlt, List.foldl_append]; rfl
    obtain ⟨b1, b2, b3, b4, b5⟩ := mix_bnd (l.take i) ⟨0, 0, 0⟩ (fun a ha => hall a (List.mem_of_mem_take ha)) (by simp) (by simp) (by simp) (by simp)
    have hlen : (l.take i).length = i := by simp; omega
    rw [hlen] at b4 b5
    have ha := hall _ (List.getElem_mem hlt)
    generalize (l.take i).foldl Mixed.add ⟨0, 0, 0⟩ = m at hst b1 b2 b3 b4 b5
    generalize l[i] = a at hix hst ha
    obtain ⟨k1, k2, k3, k4, k5⟩ := ha
    have p1 : 0 ≤ a.str.lo * a.oz := Int.mul_nonneg k1 (by omega)
    have p2 : a.str.lo * a.oz ≤ a.str.hi * a.oz := Int.mul_le_mul_of_nonneg_right k2 (by omega)
    have p3 : a.str.hi * a.oz ≤ 40 * a.oz := Int.mul_le_mul_of_nonneg_right k3 (by omega)
    simp only at b4 b5
    simp only [go_sem, hix, Acid.d]
    refine ⟨i + 1, hlt, by omega, ?_⟩
    refine ForgetTo.drop (H0 := [_]) (Y := [_]) (Nat.zero_le _) ?_ (by simp [BBs, BB, VBs, VB]) ?_
    · rw [hst]
      simp only [Mixed.add]
      rw [w64 (n := a.str.lo * a.oz) (by omega) (by omega), w64 (n := a.str.hi * a.oz) (by omega) (by omega), w64 (by omega) (by omega), w64 (by omega) (by omega), w64 (by omega) (by omega)]
    · simp [EWp, Env.look, pubV, w64 (n := (i : Int) + 1) (by omega) (by omega)]
  · have hie : i = l.length := by simp at hf; omega
    subst hie
    rw [List.take_length]
    simp [mixP, h0, mixAll, Mixed.d]

/-- How strong it is with water. -/
def Mixed.with (m : Mixed) (w : Int) : Sp := ⟨m.lo / (m.oz + w), (m.hi + (m.oz + w) - 1) / (m.oz + w)⟩

theorem c91 (m : Mixed) (w : Int) (h1 : 0 ≤ m.lo) (h2 : m.lo ≤ 40000) (h3 : 0 ≤ m.hi) (h4 : m.hi ≤ 40000) (h5 : 1 ≤ m.oz) (h6 : m.oz ≤ 1000) (h7 : 0 ≤ w) (h8 : w ≤ 1000) : PC prog 91 [.d m.d, .d (.int .i64 w)] (.d (m.with w).d) := by
  refine PC.run (fun _ => false) tt_ok (fn := f91) (rs := [.cell 4 23]) rfl rfl rfl rfl rfl rfl rfl ?_
  simp only [go_sem, Mixed.d]
  have hn : IntKind.i64.wrap (m.oz + w) = m.oz + w := w64 (by omega) (by omega)
  have hnz : ¬ m.oz + w = 0 := by omega
  refine ADrw.treeG (fun _ => false) tt_ok (by kernel_rfl) (fun k => if k = 1 ∨ k = 5 then some .L else if k = 12 then some .W else some .S) (.ones [0, 1, 2, 3, 4, 5, 6, 7, 8, 9, 10, 11, 12] .done) (by simp) (fun _ h => nomatch h) rfl rfl (by kernel_rfl) ?_
  have q1 : IntKind.i64.wrap (m.lo.tdiv (m.oz + w)) = m.lo / (m.oz + w) := by
    rw [Int.tdiv_eq_ediv_of_nonneg h1]
    exact w64 (by have := Int.ediv_nonneg h1 (show 0 ≤ m.oz + w by omega); omega) (by have := Int.ediv_le_self (m.oz + w) h1; omega)
  have w2 : IntKind.i64.wrap (m.hi + (m.oz + w)) = m.hi + (m.oz + w) := w64 (by omega) (by omega)
  have w3 : IntKind.i64.wrap (m.hi + (m.oz + w) - 1) = m.hi + (m.oz + w) - 1 := w64 (by omega) (by omega)
  have h9 : 0 ≤ m.hi + (m.oz + w) - 1 := by omega
  have q2 : IntKind.i64.wrap ((m.hi + (m.oz + w) - 1).tdiv (m.oz + w)) = (m.hi + (m.oz + w) - 1) / (m.oz + w) := by
    rw [Int.tdiv_eq_ediv_of_nonneg h9]
    exact w64 (by have := Int.ediv_nonneg h9 (show 0 ≤ m.oz + w by omega); omega) (by have := Int.ediv_le_self (m.oz + w) h9; omega)
  simp only [go_sem, hn, quoO_ne hnz, q1, q2, w2, w3, Mixed.with, Sp.d]

def sp0 : Sp := ⟨0, 0⟩

def mixV (l : List Acid) : Sp := if acidsP l = 0 then (mixAll l).with 0 else sp0

theorem acids_ok {l : List Acid} (h : acidsP l = 0) : l.length ≤ 5 ∧ l.length ≠ 0 ∧ (∀ a ∈ l, a.Ok) := by
  unfold acidsP at h
  split at h
  · cases h
  · split at h
    · cases h
    · split at h
      · cases h
      · rename_i h1 h2 h3
        refine ⟨by omega, h2, fun a ha => (badAcid_iff a).1 ?_⟩
        simp only [Bool.not_eq_true] at h3
        have := List.any_eq_false.1 h3 a ha
        simpa using this

theorem mixAll_bnd {l : List Acid} (h : acidsP l = 0) : 0 ≤ (mixAll l).lo ∧ (mixAll l).lo ≤ (mixAll l).hi ∧ (mixAll l).hi ≤ 40000 ∧ 1 ≤ (mixAll l).oz ∧ (mixAll l).oz ≤ 1000 := by
  obtain ⟨k1, k2, k3⟩ := acids_ok h
  have := mix_bnd l ⟨0, 0, 0⟩ k3 (by simp) (by simp) (by simp) (by simp)
  simp only [mixAll] at this ⊢
  omega

theorem c43 (l : List Acid) (hl : l.length ≤ 4294967296) : PC prog 43 [.d (.sl (l.map Acid.d))] (.tup [.d (mixV l).d, .d (.int .i64 (acidsP l))]) := by
  refine PC.run (fun _ => false) tt_ok (fn := f43) (rs := [.cell 2 23, .tmp 3]) rfl rfl rfl rfl rfl rfl rfl ?_
  simp only [go_sem]
  refine (c90 l hl).call rfl rfl rfl ?_
  simp only [go_sem, Mixed.d]
  refine Br_split (fun hc => ?_) (fun hc => ?_) <;> simp only [go_sem, hc]
  · have h0 : ¬ acidsP l = 0 := by simpa using hc
    simp [mixV, h0, sp0, Sp.d]
  have h0 : acidsP l = 0 := by simpa using hc
  obtain ⟨k1, k2, k3, k4, k5⟩ := mixAll_bnd h0
  have hm : mixP l = mixAll l := by rw [mixP, if_pos h0]
  refine (c91 (mixP l) 0 (by rw [hm]; omega) (by rw [hm]; omega) (by rw [hm]; omega) (by rw [hm]; omega) (by rw [hm]; omega) (by rw [hm]; omega) (by omega) (by omega)).call rfl rfl rfl ?_
  simp only [go_sem, Sp.d]
  simp [mixV, h0, hm, Sp.d]

/-- Whether so much water is right. -/
def fitW (m : Mixed) (want : Sp) (w : Int) : Bool := !(decide ((m.with w).lo < want.lo) || decide ((m.with w).hi > want.hi))

def waterStep (m : Mixed) (want : Sp) (s : Sp × Int) (w : Nat) : Sp × Int :=
  if fitW m want w = true then (if s.2 = 0 then (⟨s.1.lo, w⟩, 0) else (⟨w, w⟩, 0)) else s

def waterUp (m : Mixed) (want : Sp) (n : Nat) : Sp × Int := (List.range n).foldl (waterStep m want) (sp0, 7)

def waterP (l : List Acid) (want : Sp) : Sp × Int :=
  if acidsP l = 0 then (if (within 0 40 [want.lo, want.hi] && decide (want.lo ≤ want.hi)) = true then waterUp (mixAll l) want 501 else (sp0, 3)) else (sp0, acidsP l)

theorem c44 (l : List Acid) (want : Sp) (hl : l.length ≤ 4294967296) : PC prog 44 [.d (.sl (l.map Acid.d)), .d want.d] (.tup [.d (waterP l want).1.d, .d (.int .i64 (waterP l want).2)]) := by
  refine PC.run (fun _ => false) tt_ok (fn := f44) (rs := [.cell 4 23, .tmp 5]) rfl rfl rfl rfl rfl rfl rfl ?_
  simp only [go_sem, Sp.d]
  refine (c90 l hl).call rfl rfl rfl ?_
  simp only [go_sem, Mixed.d]
  refine Br_split (fun hc => ?_) (fun hc => ?_) <;> simp only [go_sem, hc]
  · have h0 : ¬ acidsP l = 0 := by simpa using hc
    simp [waterP, h0, sp0]
  have h0 : acidsP l = 0 := by simpa using hc
  refine (c73 0 40 want).call rfl rfl rfl ?_
  simp only [go_sem]
  refine Br_split (fun hd => ?_) (fun hd => ?_) <;> simp only [go_sem, hc, hd]
  · have h1 : ¬ (within 0 40 [want.lo, want.hi] && decide (want.lo ≤ want.hi)) = true := by rw [Bool.not_eq_true]; simpa only [Bool.not_eq_true'] using hd
    simp only [waterP, h0, if_true, if_neg h1, sp0]
  have h1 : (within 0 40 [want.lo, want.hi] && decide (want.lo ≤ want.hi)) = true := by simpa only [Bool.not_eq_false'] using hd
  obtain ⟨k1, k2, k3, k4, k5⟩ := mixAll_bnd h0
  have hm : mixP l = mixAll l := by rw [mixP, if_pos h0]
  have hstp := fun n : Nat => show waterUp (mixAll l) want (n + 1) = waterStep (mixAll l) want (waterUp (mixAll l) want n) n by rw [waterUp, List.range_succ, List.foldl_append]; rfl
  have hcc := fun (n : Nat) (hn : n ≤ 1000) => c91 (mixAll l) n (by omega) (by omega) (by omega) (by omega) (by omega) (by omega) (by omega) (by omega)
  simp only [waterP, h0, if_true, h1]
  rw [hm]
  generalize mixAll l = m at hstp hcc
  refine ALoop.by (S := Nat) (fun i => [(24, .d (.int .i64 i)), (6, .ptr 2 0), (5, .d (.int .i64 (waterUp m want i).2)), (4, .ptr 1 0), (3, .ptr 0 0)])
    (fun i => [.cells [.d (.int .i64 want.lo), .d (.int .i64 want.hi)], .cells [.d (.int .i64 (waterUp m want i).1.lo), .d (.int .i64 (waterUp m want i).1.hi)], .cells [.d (.int .i64 m.lo), .d (.int .i64 m.hi), .d (.int .i64 m.oz)]]) (fun i => 501 - i) (fun i => i ≤ 501) 0 (by simp) (fun _ h => nomatch h) (Nat.zero_le _) ?_ ?_
  · exact ForgetTo.same' (by simp) (by simp [EWe, Env.look, waterUp]) (by simp [waterUp, sp0])
  rintro i hi hn
  refine AWP.run (fun _ => false) tt_ok (fun _ h => nomatch h) (by simp) rfl ?_
  simp only [go_sem]
  refine Br_split (fun hf => ?_) (fun hf => ?_) <;> simp only [go_sem, hf]
  · have hlt : i < 501 := by simp only [decide_eq_true_eq] at hf; omega
    have hnx : IntKind.i64.wrap ((i : Int) + 1) = ((i + 1 : Nat) : Int) := w64 (by omega) (by omega)
    refine (hcc i (by omega)).call rfl rfl rfl ?_
    have hst := hstp i
    have hfw : fitW m want i = !(decide ((m.with i).lo < want.lo) || decide ((m.with i).hi > want.hi)) := rfl
    generalize waterUp m want i = s at hst
    generalize m.with i = r at hfw
    simp only [go_sem, Sp.d]
    have skip : fitW m want i = false → waterUp m want (i + 1) = s := fun h => by rw [hst, waterStep, if_neg (by rw [h]; simp)]
    refine Br_split (fun h2 => ?_) (fun h2 => ?_) <;> simp only [go_sem, h2]
    · rw [h2] at hfw
      have hsk := skip (by rw [hfw]; simp)
      refine ⟨i + 1, hlt, by omega, ?_⟩
      refine ForgetTo.drop (H0 := [_, _, _]) (Y := [_]) (Nat.zero_le _) ?_ (by simp [BBs, BB, VBs, VB]) ?_
      · rw [hsk]
      · simp [EWp, Env.look, pubV, hnx, hsk]
    · refine Br_split (fun h3 => ?_) (fun h3 => ?_) <;> simp only [go_sem, h2, h3]
      · rw [h2, show decide (r.hi > want.hi) = true from h3] at hfw
        have hsk := skip (by rw [hfw]; rfl)
        refine ⟨i + 1, hlt, by omega, ?_⟩
        refine ForgetTo.drop (H0 := [_, _, _]) (Y := [_]) (Nat.zero_le _) ?_ (by simp [BBs, BB, VBs, VB]) ?_
        · rw [hsk]
        · simp [EWp, Env.look, pubV, hnx, hsk]
      · rw [h2, show decide (r.hi > want.hi) = false from h3] at hfw
        have hfw' : fitW m want i = true := by rw [hfw]; rfl
        rw [waterStep, if_pos hfw'] at hst
        refine Br_split (fun h4 => ?_) (fun h4 => ?_) <;> simp only [go_sem, h4]
        · have h5 : ¬ s.2 = 0 := by simpa using h4
          rw [if_neg h5] at hst
          refine ⟨i + 1, hlt, by omega, ?_⟩
          refine ForgetTo.drop (H0 := [_, _, _]) (Y := [_]) (Nat.zero_le _) ?_ (by simp [BBs, BB, VBs, VB]) ?_
          · rw [hst]
          · simp [EWp, Env.look, pubV, hnx, hst]
        · have h5 : s.2 = 0 := by simpa using h4
          rw [if_pos h5] at hst
          refine ⟨i + 1, hlt, by omega, ?_⟩
          refine ForgetTo.drop (H0 := [_, _, _]) (Y := [_]) (Nat.zero_le _) ?_ (by simp [BBs, BB, VBs, VB]) ?_
          · rw [hst]
          · simp [EWp, Env.look, pubV, hnx, hst]
  · have hie : i = 501 := by simp only [decide_eq_false_iff_not] at hf; omega
    subst hie
    simp
end Go.Aw
end

section
set_option maxRecDepth 100000
namespace Go.Aw
open Go Go.Proofs.Try

/-- A thing seen. -/
structure Seen where
  step : Step
  how : Int
deriving DecidableEq

def Seen.d (s : Seen) : D := .agg [.int .i64 s.step.plate, .int .i64 s.step.hours, .int .i64 s.how]

/-- What was seen of a bath, but some things. -/
structure Log where
  bath : Bath
  seen : List Seen
  without : Nat

def Log.d (x : Log) : D := .agg [.int .i64 x.bath.str.lo, .int .i64 x.bath.str.hi, .sl (x.bath.plates.map Plate.d), .sl (x.seen.map Seen.d), .int .i64 x.without]

def badHow (s : Seen) : Bool := decide (s.how < 1) || decide (s.how > 3)

/-- The error of a bath and of what was seen of it. -/
def logE (b : Bath) (l : List Seen) : Int :=
  if checkP b = 0 then (if l.any badHow = true then 4 else if stepsOk b.plates.length 0 (l.map Seen.step) = true then 0 else 4) else checkP b

def log0 : Log := ⟨⟨⟨0, 0⟩, []⟩, [], 0⟩

def logP (b : Bath) (l : List Seen) : Log := if logE b l = 0 then ⟨b, l, 0⟩ else log0

theorem c92 (b : Bath) (l : List Seen) (hb : b.plates.length ≤ 4294967296) (hl : l.length ≤ 1000) : PC prog 92 [.d b.d, .d (.sl (l.map Seen.d))] (.tup [.d (logP b l).d, .d (.int .i64 (logE b l))]) := by
  refine PC.run (fun k => k == 7) tt_ok (fn := f92) (rs := [.cell 4 168, .tmp 5]) rfl rfl rfl rfl rfl rfl rfl ?_
  simp only [go_sem, Bath.d]
  refine (c76 b hb).call rfl rfl rfl ?_
  simp only [go_sem, Bath.d]
  refine Br_split (fun hc => ?_) (fun hc => ?_) <;> simp only [go_sem, hc]
  · have h0 : ¬ checkP b = 0 := by simpa using hc
    simp [logP, logE, h0, log0, Log.d]
  have h0 : checkP b = 0 := by simpa using hc
  have hok := checkP_iff.1 h0
  have hok' := hok
  obtain ⟨s1, s2, s3, hb5, _⟩ := hok'
  refine ALoop.by (S := Nat) (fun i => [(21, .d (.int .i64 i)), (20, .d (.int .i64 l.length)), (19, .d (.sl (l.map Seen.d))), (7, .ref 3 i 0 i), (6, .ptr 2 0), (4, .ptr 1 0), (1, .d (.sl (l.map Seen.d)))])
    (fun i => [.cells [.d (.int .i64 b.str.lo), .d (.int .i64 b.str.hi), .d (.sl (b.plates.map Plate.d))], .cells [.d (.int .i64 0), .d (.int .i64 0), .d (.sl []), .d (.sl []), .d (.int .i64 0)], .cells [.d (.int .i64 b.str.lo), .d (.int .i64 b.str.hi), .d (.sl (b.plates.map Plate.d))], .arr 2 (decide (i = 0)) ((l.take i).map fun s => s.step.d)])
    (fun i => l.length - i) (fun i => i ≤ l.length ∧ (l.take i).any badHow = false) 0 (by simp) (fun _ h => nomatch h) ⟨Nat.zero_le _, rfl⟩ ?_ ?_
  · exact ForgetTo.same' (by simp) (by simp [EWe, Env.look]) (by simp)
  rintro i ⟨hi, hany⟩ hn
  refine AWP.run (fun k => k == 7) tt_ok (fun _ h => nomatch h) (by simp) rfl ?_
  simp only [go_sem]
  refine Br_split (fun hd => ?_) (fun hd => ?_) <;> simp only [go_sem, hd]
  · have hlt : i < l.length := by simpa using hd
    have hix : idx? (l.map Seen.d) (i : Int) = some (l[i]).d := by simp [idx?, List.getElem?_eq_getElem hlt]
    have hst : (l.take (i + 1)).map (fun s => s.step.d) = (l.take i).map (fun s => s.step.d) ++ [l[i].step.d] := by
      rw [List.take_add_one, List.getElem?_eq_getElem hlt, List.map_append]; rfl
    have hst2 : (l.take (i + 1)).any badHow = badHow l[i] := by
      rw [List.take_add_one, List.getElem?_eq_getElem hlt, List.any_append, hany]; simp
    have hmem : badHow l[i] = true → l.any badHow = true := fun h => List.any_eq_true.2 ⟨_, List.getElem_mem hlt, h⟩
    have hln : ((l.take i).map fun s => s.step.d).length = i := by simp; omega
    have hi1 : i + 1 ≤ 4294967296 := by omega
    generalize l[i] = s at hix hst hst2 hmem
    simp only [go_sem, hix, Seen.d, hln, hi1]
    have bad : badHow s = true → logE b l = 4 := fun h => by rw [logE, if_pos h0, if_pos (hmem h)]
    refine Br_split (fun h1 => ?_) (fun h1 => ?_) <;> simp only [go_sem, h1]
    · have he := bad (by rw [badHow, h1]; rfl)
      simp [logP, he, log0, Log.d]
    refine Br_split (fun h2 => ?_) (fun h2 => ?_) <;> simp only [go_sem, h1, h2]
    · have he := bad (by rw [badHow, h1]; exact h2)
      simp [logP, he, log0, Log.d]
    · refine ⟨i + 1, ⟨hlt, by rw [hst2, badHow, h1]; exact h2⟩, by omega, ?_⟩
      refine ForgetTo.drop (H0 := [_, _, _, _]) (Y := [_]) (Nat.zero_le _) ?_ (by simp [BBs, BB, VBs, VB]) ?_
      · rw [hst]; simp [Step.d]
      · simp [EWp, Env.look, pubV, w64 (n := (i : Int) + 1) (by omega) (by omega)]
  · have hie : i = l.length := by simp at hd; omega
    subst hie
    rw [List.take_length] at hany ⊢
    have hmm : (l.map fun s => s.step.d) = (l.map Seen.step).map Step.d := by simp
    rw [hmm]
    have htk : (l.map (Step.d ∘ Seen.step)).take l.length = l.map (Step.d ∘ Seen.step) := List.take_of_length_le (by simp)
    refine (c77 b (l.map Seen.step) (by omega) (by simp; omega)).callL rfl (by simp [pubVs, pubV, dz, Bath.d, htk]) rfl ?_
    simp only [go_sem]
    refine Br_split (fun h2 => ?_) (fun h2 => ?_) <;> simp only [go_sem, h2]
    · have h2' : ¬ stepsOk b.plates.length 0 (l.map Seen.step) = true := by simpa using h2
      have he : logE b l = 4 := by rw [logE, if_pos h0, hany, if_neg (by simp), if_neg h2']
      simp [logP, he, log0, Log.d]
    · have h2' : stepsOk b.plates.length 0 (l.map Seen.step) = true := by simpa using h2
      have he : logE b l = 0 := by rw [logE, if_pos h0, hany, if_neg (by simp), if_pos h2']
      simp [logP, he, Log.d]
end Go.Aw
end

section
set_option maxRecDepth 100000
namespace Go.Aw
open Go Go.Proofs.Try

/-- What a thing seen leaves of a plate's rust. -/
def narrow (p : Plate) (how loses : Int) (r : Sp) : Sp :=
  if how = 1 then ⟨max r.lo (loses + 1), r.hi⟩ else if how = 3 then ⟨r.lo, min r.hi (loses - p.thin - 1)⟩ else ⟨max r.lo (loses - p.thin), min r.hi loses⟩

def nowL (b : Bath) (l : List Sp) (p : Int) : Sp := l.getD p.toNat ⟨0, 0⟩

def rustsR (b : Bath) (str : Int) (w : Nat) : List Seen → Nat → Int → List Sp → Option (List Sp)
  | [], _, _, l => some l
  | s :: r, i, fell, l =>
    if w.testBit i = true then rustsR b str w r (i + 1) (fell + (b.pl s.step.plate).takes) l
    else if (narrow (b.pl s.step.plate) s.how (aft fell str * s.step.hours) (nowL b l s.step.plate)).lo > (narrow (b.pl s.step.plate) s.how (aft fell str * s.step.hours) (nowL b l s.step.plate)).hi then none
    else rustsR b str w r (i + 1) (fell + (b.pl s.step.plate).takes) (l.set s.step.plate.toNat (narrow (b.pl s.step.plate) s.how (aft fell str * s.step.hours) (nowL b l s.step.plate)))

def rustsP (x : Log) (str : Int) : Option (List Sp) := rustsR x.bath str x.without x.seen 0 0 (x.bath.plates.map Plate.rust)

def Log.Ok (x : Log) : Prop := x.bath.Ok ∧ x.seen.length ≤ 62 ∧ x.without < 2 ^ 62 ∧ ∀ s ∈ x.seen, (0 ≤ s.step.plate ∧ s.step.plate < x.bath.plates.length) ∧ 1 ≤ s.step.hours ∧ s.step.hours ≤ 24

def boxX (x : Log) : Blk := .cells [.d (.int .i64 x.bath.str.lo), .d (.int .i64 x.bath.str.hi), .d (.sl (x.bath.plates.map Plate.d)), .d (.sl (x.seen.map Seen.d)), .d (.int .i64 x.without)]

def rB (x : Log) (str : Int) : Heap := match rustsP x str with
  | none => []
  | some l => [boxX x, .arr 2 (decide (x.bath.plates.length = 0)) (l.map Sp.d)]

def rV (x : Log) (str : Int) : V := match rustsP x str with
  | none => .tup [.d (.sl []), .d (.bool false)]
  | some _ => .tup [.ref 1 x.bath.plates.length 0 x.bath.plates.length, .d (.bool true)]

theorem r115 {x : Log} (hok : x.Ok) {str : Int} (hs : 0 ≤ str ∧ str ≤ 40) : PCr prog 115 [.d x.d, .d (.int .i64 str)] (rB x str) (rV x str) := by
  refine PCr.of_body tt_ok (fn := f115) (rs := [.tmp 4, .tmp 5]) (rB x str).length rfl rfl rfl rfl rfl rfl ?_
  refine AWP.run (fun k => k == 4) tt_ok (fun _ h => nomatch h) (Nat.zero_le _) rfl ?_
  obtain ⟨hb, hl62, hw62, hst⟩ := hok
  have hb' := hb
  obtain ⟨s1, s2, s3, hb5, _⟩ := hb'
  simp only [go_sem, Log.d]
  refine ALoop.by (S := Nat) (fun i => [(19, .d (.int .i64 i)), (18, .d (.int .i64 x.bath.plates.length)), (17, .d (.sl (x.bath.plates.map Plate.d))), (4, .ref 1 i 0 i), (2, .ptr 0 0), (1, .d (.int .i64 str))])
    (fun i => [boxX x, .arr 2 (decide (i = 0)) (((x.bath.plates.take i).map Plate.rust).map Sp.d)])
    (fun i => x.bath.plates.length - i) (fun i => i ≤ x.bath.plates.length) 0 (by simp) (fun _ h => nomatch h) (Nat.zero_le _) ?_ ?_
  · exact ForgetTo.same' (by simp) (by simp [EWe, Env.look]) (by simp [boxX])
  · rintro i hi hn
    refine AWP.run (fun k => k == 4) tt_ok (fun _ h => nomatch h) (by simp) rfl ?_
    simp only [go_sem]
    refine Br_split (fun hd => ?_) (fun hd => ?_) <;> simp only [go_sem, hd]
    · have hlt : i < x.bath.plates.length := by simpa using hd
      have hix : idx? (x.bath.plates.map Plate.d) (i : Int) = some (x.bath.plates[i]).d := by simp [idx?, List.getElem?_eq_getElem hlt]
      have hsc : ((x.bath.plates.take (i + 1)).map Plate.rust).map Sp.d = ((x.bath.plates.take i).map Plate.rust).map Sp.d ++ [x.bath.plates[i].rust.d] := by
        rw [List.take_add_one, List.getElem?_eq_getElem hlt, List.map_append, List.map_append]; rfl
      have hln : (((x.bath.plates.take i).map Plate.rust).map Sp.d).length = i := by simp; omega
      have hi1 : i + 1 ≤ 4294967296 := by omega
      generalize x.bath.plates[i] = p at hix hsc
      simp only [go_sem, hix, Plate.d, hln, hi1, boxX]
      refine ⟨i + 1, hlt, by omega, ?_⟩
      refine ForgetTo.drop (H0 := [_, _]) (Y := [_]) (Nat.zero_le _) ?_ (by simp [BBs, BB, VBs, VB]) ?_
      · rw [hsc]; simp [Sp.d]
      · simp [EWp, Env.look, pubV, w64 (n := (i : Int) + 1) (by omega) (by omega)]
    · have hie : i = x.bath.plates.length := by simp at hd; omega
      subst hie
      rw [List.take_length]
      simp only [go_sem, boxX]
      refine ALoop.by (S := Nat × List Sp × Int) (fun s => [(32, .d (.int .i64 s.1)), (31, .d (.int .i64 x.seen.length)), (30, .d (.sl (x.seen.map Seen.d))), (8, .d (.int .i64 s.2.2)), (4, .ref 1 x.bath.plates.length 0 x.bath.plates.length), (2, .ptr 0 0), (1, .d (.int .i64 str))])
        (fun s => [boxX x, .arr 2 (decide (x.bath.plates.length = 0)) (s.2.1.map Sp.d)])
        (fun s => x.seen.length - s.1) (fun s => s.1 ≤ x.seen.length ∧ s.2.1.length = x.bath.plates.length ∧ (0 ≤ s.2.2 ∧ s.2.2 ≤ 10 * s.1) ∧ rustsR x.bath str x.without (x.seen.drop s.1) s.1 s.2.2 s.2.1 = rustsP x str) (0, x.bath.plates.map Plate.rust, 0) (by simp) (fun _ h => nomatch h) ⟨Nat.zero_le _, by simp, by simp, rfl⟩ ?_ ?_
      · exact ForgetTo.same' (by simp) (by simp [EWe, Env.look]) (by simp [boxX])
      rintro ⟨i, l, fell⟩ ⟨hi, hll, hfe, hR⟩ hn2
      simp only at hi hll hfe hR hn2 ⊢
      refine AWP.run (fun k => k == 4) tt_ok (fun _ h => nomatch h) (by simp) rfl ?_
      simp only [go_sem]
      refine Br_split (fun he => ?_) (fun he => ?_) <;> simp only [go_sem, he]
      · have hlt : i < x.seen.length := by simpa using he
        have hix : idx? (x.seen.map Seen.d) (i : Int) = some (x.seen[i]).d := by simp [idx?, List.getElem?_eq_getElem hlt]
        obtain ⟨g1, g2⟩ := hst _ (List.getElem_mem hlt)
        rw [List.drop_eq_getElem_cons hlt] at hR
        generalize x.seen[i] = sn at hix g1 g2 hR
        obtain ⟨q, hq⟩ : ∃ q : Nat, sn.step.plate = q := ⟨sn.step.plate.toNat, by omega⟩
        have hqn : q < x.bath.plates.length := by omega
        have hat := Bath.at (b := x.bath) (p := sn.step.plate) g1
        have hpl := hb.pl sn.step.plate
        simp only [Plate.Ok] at hpl
        simp only [rustsR, nowL] at hR
        generalize x.bath.pl sn.step.plate = p at hat hpl hR
        rw [hq] at hat hR g1
        have hgd : l.getD q ⟨0, 0⟩ = l[q] := by rw [List.getD_eq_getElem?_getD, List.getElem?_eq_getElem (by omega), Option.getD_some]
        simp only [Int.toNat_natCast, hgd] at hR
        have hlq : l[q]? = some l[q] := List.getElem?_eq_getElem (by omega)
        generalize l[q] = r at hR hlq
        simp only [go_sem, hix, Seen.d, boxX, hq, hat, Plate.d]
        have haf : 0 ≤ aft fell str ∧ aft fell str ≤ 40 := by simp only [aft]; omega
        have hmul : 0 ≤ aft fell str * sn.step.hours ∧ aft fell str * sn.step.hours ≤ 960 := by
          refine ⟨Int.mul_nonneg haf.1 (by omega), ?_⟩
          have := Int.mul_le_mul haf.2 g2.2 (by omega) (by omega : (0 : Int) ≤ 40)
          omega
        have hwm : IntKind.i64.wrap (aft fell str * sn.step.hours) = aft fell str * sn.step.hours := w64 (by omega) (by omega)
        have hwf : IntKind.i64.wrap (fell + p.takes) = fell + p.takes := w64 (by omega) (by omega)
        refine ADrw.treeG (fun k => k == 4) tt_ok (by kernel_rfl) (fun k => if k = 5 then some .L else some .S) (.ones [0, 1, 2, 3, 4, 5, 6, 7] .done) (by simp) (fun _ h => nomatch h) rfl rfl (by kernel_rfl) ?_
        simp only [go_sem]
        refine (c106' (a := fell) (s := str) (by omega) (by omega)).callS rfl rfl rfl rfl rfl rfl ?_
        simp only [go_sem, hwm]
        generalize aft fell str * sn.step.hours = loses at hR hmul
        have hw63 : x.without < 2 ^ 63 := by omega
        have hnx : IntKind.i64.wrap ((i : Int) + 1) = ((i + 1 : Nat) : Int) := w64 (by omega) (by omega)
        simp only [go_sem, hwf, shrN x.without (show i < 64 by omega), and1N (shr_lt (p := i) hw63), bitN]
        refine Br_split (fun h1 => ?_) (fun h1 => ?_) <;> simp only [go_sem, h1]
        · rw [if_pos h1] at hR
          refine ⟨(i + 1, l, fell + p.takes), ⟨hlt, hll, by simp only; omega, hR⟩, by simp only; omega, ?_⟩
          refine ForgetTo.drop (H0 := [_, _]) (Y := [_, _]) (Nat.zero_le _) rfl (by simp [BBs, BB, VBs, VB, boxX]) ?_
          simp [EWp, Env.look, pubV, hnx]
        · rw [if_neg (by rw [h1]; simp)] at hR
          have hlm : (l.map Sp.d)[q]? = some r.d := by rw [List.getElem?_map, hlq]; rfl
          have hlml : (l.map Sp.d).length = x.bath.plates.length := by simp [hll]
          have c1 : (0 : Int) ≤ (q : Int) := by omega
          have c2 : (q : Int) < (x.bath.plates.length : Int) := by omega
          simp only [go_sem, hlm, hlml, c1, c2, Int.toNat_natCast, hll]
          have hgs : ∀ e : D, ((l.map Sp.d).set q e)[q]? = some e := fun e => List.getElem?_set_self (by simp; omega)
          have hls : ∀ e : D, ((l.map Sp.d).set q e).length = x.bath.plates.length := fun e => by simp [hll]
          have hss : ∀ e e' : D, ((l.map Sp.d).set q e).set q e' = (l.map Sp.d).set q e' := fun e e' => by simp
          have w1 : IntKind.i64.wrap (loses + 1) = loses + 1 := w64 (by omega) (by omega)
          have w2 : IntKind.i64.wrap (loses - p.thin) = loses - p.thin := w64 (by omega) (by omega)
          have w3 : IntKind.i64.wrap (loses - p.thin - 1) = loses - p.thin - 1 := w64 (by omega) (by omega)
          refine Br_split (fun h2 => ?_) (fun h2 => ?_) <;> simp only [go_sem, h2, hlm, hlml, hgs, hls, hss, w1, Sp.d]
          · have h2' : sn.how = 1 := by simpa using h2
            have hN : narrow p sn.how loses r = ⟨max r.lo (loses + 1), r.hi⟩ := by simp [narrow, h2']
            rw [hN] at hR
            generalize max r.lo (loses + 1) = lo at hR
            generalize r.hi = hi' at hR
            refine ADrw.treeG (fun k => k == 4) tt_ok (by kernel_rfl) (fun k => if k = 3 ∨ k = 7 then some .L else some .S) (.ones [0, 1, 2, 3, 4, 5, 6, 7, 8] .done) (by simp) (fun _ h => nomatch h) rfl rfl (by kernel_rfl) ?_
            simp only [go_sem, hgs, hls, hss]
            refine Br_split (fun h4 => ?_) (fun h4 => ?_) <;> simp only [go_sem, h4, hgs, hls, hss]
            · have h5 : lo > hi' := by simpa using h4
              rw [if_pos h5] at hR
              have hB : rB x str = [] := by simp only [rB, ← hR]
              have hV : rV x str = .tup [.d (.sl []), .d (.bool false)] := by simp only [rV, ← hR]
              rw [hB, hV]
              simp only [go_sem]
            · have h5 : ¬ lo > hi' := by simpa using h4
              rw [if_neg h5] at hR
              refine ⟨(i + 1, l.set q ⟨lo, hi'⟩, fell + p.takes), ⟨hlt, by simp [hll], by simp only; omega, hR⟩, by simp only; omega, ?_⟩
              refine ForgetTo.drop (H0 := [_, _]) (Y := [_, _]) (Nat.zero_le _) ?_ (by simp [BBs, BB, VBs, VB, boxX]) ?_
              · simp [boxX, List.map_set, Sp.d]
              · simp [EWp, Env.look, pubV, hnx]
          · have h2' : ¬ sn.how = 1 := by simpa using h2
            refine Br_split (fun h3 => ?_) (fun h3 => ?_) <;> simp only [go_sem, h2, h3]
            · have h3' : sn.how = 3 := by simpa using h3
              refine ADrw.treeG (fun k => k == 4) tt_ok (by kernel_rfl) (fun k => if k = 4 ∨ k = 7 then some .L else if k = 13 then some .W else some .S) (.ones [0, 1, 2, 3, 4, 5, 6, 7, 8, 9, 10, 11, 12, 13] .done) (by simp) (fun _ h => nomatch h) rfl rfl (by kernel_rfl) ?_
              simp only [go_sem, h2, hlm, hlml, hgs, hls, hss, w2, w3, Sp.d]
              have hN : narrow p sn.how loses r = ⟨r.lo, min r.hi (loses - p.thin - 1)⟩ := by simp [narrow, h2', h3']
              rw [hN] at hR
              generalize r.lo = lo at hR
              generalize min r.hi (loses - p.thin - 1) = hi' at hR
              refine ADrw.treeG (fun k => k == 4) tt_ok (by kernel_rfl) (fun k => if k = 3 ∨ k = 7 then some .L else some .S) (.ones [0, 1, 2, 3, 4, 5, 6, 7, 8] .done) (by simp) (fun _ h => nomatch h) rfl rfl (by kernel_rfl) ?_
              simp only [go_sem, hgs, hls, hss]
              refine Br_split (fun h4 => ?_) (fun h4 => ?_) <;> simp only [go_sem, h4, hgs, hls, hss]
              · have h5 : lo > hi' := by simpa using h4
                rw [if_pos h5] at hR
                have hB : rB x str = [] := by simp only [rB, ← hR]
                have hV : rV x str = .tup [.d (.sl []), .d (.bool false)] := by simp only [rV, ← hR]
                rw [hB, hV]
                simp only [go_sem]
              · have h5 : ¬ lo > hi' := by simpa using h4
                rw [if_neg h5] at hR
                refine ⟨(i + 1, l.set q ⟨lo, hi'⟩, fell + p.takes), ⟨hlt, by simp [hll], by simp only; omega, hR⟩, by simp only; omega, ?_⟩
                refine ForgetTo.drop (H0 := [_, _]) (Y := [_, _]) (Nat.zero_le _) ?_ (by simp [BBs, BB, VBs, VB, boxX]) ?_
                · simp [boxX, List.map_set, Sp.d]
                · simp [EWp, Env.look, pubV, hnx]
            · have h3' : ¬ sn.how = 3 := by simpa using h3
              refine ADrw.treeG (fun k => k == 4) tt_ok (by kernel_rfl) (fun k => if k = 5 ∨ k = 8 ∨ k = 14 then some .L else if k = 19 ∨ k = 22 then some .W else some .S) (.ones [0, 1, 2, 3, 4, 5, 6, 7, 8, 9, 10, 11, 12, 13, 14, 15, 16, 17, 18, 19, 20, 21, 22] .done) (by simp) (fun _ h => nomatch h) rfl rfl (by kernel_rfl) ?_
              simp only [go_sem, h2, hlm, hlml, hgs, hls, hss, w2, w3, Sp.d]
              have hN : narrow p sn.how loses r = ⟨max r.lo (loses - p.thin), min r.hi loses⟩ := by simp [narrow, h2', h3']
              rw [hN] at hR
              generalize max r.lo (loses - p.thin) = lo at hR
              generalize min r.hi loses = hi' at hR
              refine ADrw.treeG (fun k => k == 4) tt_ok (by kernel_rfl) (fun k => if k = 3 ∨ k = 7 then some .L else some .S) (.ones [0, 1, 2, 3, 4, 5, 6, 7, 8] .done) (by simp) (fun _ h => nomatch h) rfl rfl (by kernel_rfl) ?_
              simp only [go_sem, hgs, hls, hss]
              refine Br_split (fun h4 => ?_) (fun h4 => ?_) <;> simp only [go_sem, h4, hgs, hls, hss]
              · have h5 : lo > hi' := by simpa using h4
                rw [if_pos h5] at hR
                have hB : rB x str = [] := by simp only [rB, ← hR]
                have hV : rV x str = .tup [.d (.sl []), .d (.bool false)] := by simp only [rV, ← hR]
                rw [hB, hV]
                simp only [go_sem]
              · have h5 : ¬ lo > hi' := by simpa using h4
                rw [if_neg h5] at hR
                refine ⟨(i + 1, l.set q ⟨lo, hi'⟩, fell + p.takes), ⟨hlt, by simp [hll], by simp only; omega, hR⟩, by simp only; omega, ?_⟩
                refine ForgetTo.drop (H0 := [_, _]) (Y := [_, _]) (Nat.zero_le _) ?_ (by simp [BBs, BB, VBs, VB, boxX]) ?_
                · simp [boxX, List.map_set, Sp.d]
                · simp [EWp, Env.look, pubV, hnx]
      · have hie : i = x.seen.length := by simp at he; omega
        subst hie
        rw [List.drop_eq_nil_of_le (Nat.le_refl _)] at hR
        simp only [rustsR] at hR
        have hB : rB x str = [boxX x, .arr 2 (decide (x.bath.plates.length = 0)) (l.map Sp.d)] := by simp only [rB, ← hR]
        have hV : rV x str = .tup [.ref 1 x.bath.plates.length 0 x.bath.plates.length, .d (.bool true)] := by simp only [rV, ← hR]
        rw [hB, hV]
        simp only [go_sem, boxX, hll]

/-- What a function that leaves blocks of its own behind answers, as data. -/
theorem PC.of_r {P : Program} {f : FuncId} {vs : List V} {B : Heap} {v v' : V} (h : PCr P f vs B v) (hv : pubV 0 B v = some v') : PC P f vs v' := by
  refine ⟨h.1, fun g w cvs hr hvs => CallsIn.mono (h.2 g w cvs hr hvs) ?_⟩
  rintro e w' ⟨c, g', r, H', k1, ⟨rfl, rfl⟩, k3, k4, k5, k6⟩
  refine ⟨c, g'.pub 0, v', H'.take 0, k1, ⟨rfl, rfl⟩, pub_sound k4 _ _ _ hv k3, HR_pub k4 (Nat.zero_le _) (.inr trivial), k5.pub _, fun id x hx => by simp at hx⟩

def rustsV (x : Log) (str : Int) : V := match rustsP x str with
  | none => .tup [.d (.sl []), .d (.bool false)]
  | some l => .tup [.d (.sl (l.map Sp.d)), .d (.bool true)]

theorem rustsR_len (b : Bath) (str : Int) (w : Nat) : ∀ (l : List Seen) (i : Nat) (fell : Int) (r r' : List Sp), rustsR b str w l i fell r = some r' → r'.length = r.length
  | [], _, _, r, r', h => by simp only [rustsR, Option.some.injEq] at h; rw [h]
  | s :: l, i, fell, r, r', h => by
    simp only [rustsR] at h
    split at h
    · exact rustsR_len b str w l _ _ _ _ h
    · split at h
      · cases h
      · rw [rustsR_len b str w l _ _ _ _ h, List.length_set]

theorem rustsP_len {x : Log} {str : Int} {l : List Sp} (h : rustsP x str = some l) : l.length = x.bath.plates.length := by
  rw [rustsR_len _ _ _ _ _ _ _ _ h, List.length_map]

theorem c115 {x : Log} (hok : x.Ok) {str : Int} (hs : 0 ≤ str ∧ str ≤ 40) : PC prog 115 [.d x.d, .d (.int .i64 str)] (rustsV x str) := by
  refine PC.of_r (r115 hok hs) ?_
  cases h : rustsP x str with
  | none => simp only [rB, rV, rustsV, h]; rfl
  | some l =>
    have hl := rustsP_len h
    have htk : (l.map Sp.d).take x.bath.plates.length = l.map Sp.d := List.take_of_length_le (by simp [hl])
    simp [rB, rV, rustsV, h, pubV, pubVs, hl, htk]
end Go.Aw
end
