/- The functions that this law runs, as a table; by program (genft.py). -/
import Derived.Test.YtiikjgnpbgngaaaGreatSeatNamesPf
import Derived.Test.YtiikjgnpbgngaaaGreatSeatNamesPg
section
namespace Go.Proofs
open Go.Tm

def Tryz.ptLS : List (Nat × List (Nat × List (Nat × Nat))) := [
  (3, [(5, [(0, 1), (0, 2), (0, 3), (6, 7), (6, 8), (7, 8), (6, 9), (7, 9), (8, 9), (0, 10), (1, 10), (2, 10), (3, 10), (4, 10), (5, 10), (6, 10), (7, 10), (8, 10), (9, 10), (7, 11), (8, 11), (9, 11), (8, 12), (9, 12), (9, 13)]), (8, [(0, 1), (0, 2), (0, 3), (6, 7), (6, 8), (7, 8), (6, 9), (7, 9), (8, 9), (7, 10), (8, 10), (9, 10), (8, 11), (9, 11), (9, 12)]), (15, [(0, 3), (1, 3), (2, 3), (6, 9), (7, 9), (8, 9), (6, 10), (7, 10), (8, 10)]), (16, [(9, 13), (10, 13), (11, 13), (12, 13), (40, 43), (41, 43), (42, 43), (40, 44), (41, 44), (42, 44)])]),
  (10, [(2, [(0, 1), (4, 5), (5, 6)])]),
  (13, [(11, [(0, 4), (1, 4), (2, 4), (3, 4), (0, 5), (1, 5), (2, 5), (3, 5), (0, 6), (1, 6), (2, 6), (3, 6), (0, 7), (1, 7), (2, 7), (3, 7), (0, 8), (1, 8), (2, 8), (3, 8), (4, 8), (5, 8), (6, 8), (7, 8), (0, 9), (1, 9), (2, 9), (3, 9), (4, 9), (5, 9), (6, 9), (7, 9), (0, 10), (1, 10), (2, 10), (3, 10), (4, 10), (5, 10), (6, 10), (7, 10), (0, 11), (1, 11), (2, 11), (3, 11), (4, 11), (5, 11), (6, 11), (7, 11), (4, 12), (5, 12), (6, 12), (7, 12), (8, 12), (9, 12), (10, 12), (11, 12), (8, 13), (9, 13), (10, 13), (11, 13)])]),
  (16, [(2, [(40, 46), (41, 46), (42, 46), (43, 46), (44, 46), (45, 46), (40, 47), (41, 47), (42, 47), (43, 47), (44, 47), (45, 47), (40, 48), (41, 48), (42, 48), (43, 48), (44, 48), (45, 48), (40, 49), (41, 49), (42, 49), (43, 49), (44, 49), (45, 49), (40, 50), (41, 50), (42, 50), (43, 50), (44, 50), (45, 50)]), (9, [(0, 2), (1, 2), (0, 3), (1, 3), (0, 4), (1, 4), (0, 5), (1, 5), (0, 6), (1, 6), (9, 11), (10, 11)]), (17, [(0, 1), (0, 2), (0, 3), (0, 4), (0, 5), (8, 10), (9, 10), (8, 11), (9, 11), (16, 18), (17, 18), (16, 19), (17, 19)])]),
  (61, [(6, [(0, 4), (1, 4), (2, 4), (3, 4), (0, 5), (1, 5), (2, 5), (3, 5), (0, 6), (1, 6), (2, 6), (3, 6), (0, 7), (1, 7), (2, 7), (3, 7), (0, 8), (1, 8), (2, 8), (3, 8), (4, 8), (5, 8), (6, 8), (7, 8), (0, 9), (1, 9), (2, 9), (3, 9), (4, 9), (5, 9), (6, 9), (7, 9), (0, 10), (1, 10), (2, 10), (3, 10), (4, 10), (5, 10), (6, 10), (7, 10), (0, 11), (1, 11), (2, 11), (3, 11), (4, 11), (5, 11), (6, 11), (7, 11), (4, 12), (5, 12), (6, 12), (7, 12), (8, 12), (9, 12), (10, 12), (11, 12), (8, 13), (9, 13), (10, 13), (11, 13)])]),
  (62, [(7, [(0, 3), (1, 3), (2, 3), (0, 4), (1, 4), (2, 4)])]),
  (64, [(1, [(0, 4), (1, 4), (2, 4), (3, 4), (0, 5), (1, 5), (2, 5), (3, 5), (0, 6), (1, 6), (2, 6), (3, 6)]), (2, [(0, 3), (1, 3), (2, 3), (0, 4), (1, 4), (2, 4), (0, 6), (1, 6), (2, 6), (3, 6), (4, 6), (5, 6), (0, 7), (1, 7), (2, 7), (3, 7), (4, 7), (5, 7), (0, 9), (1, 9), (2, 9), (3, 9), (4, 9), (5, 9), (6, 9), (7, 9), (8, 9), (0, 10), (1, 10), (2, 10), (3, 10), (4, 10), (5, 10), (6, 10), (7, 10), (8, 10), (5, 12), (8, 12), (11, 12)])]),
  (65, [(11, [(2, 3), (2, 4), (3, 4), (2, 5), (2, 6), (3, 6), (4, 6), (5, 6)])]),
  (66, [(1, [(0, 2), (1, 2), (0, 3), (1, 3)]), (15, [(0, 1), (0, 2), (0, 3), (0, 4), (0, 5), (0, 6), (1, 6), (2, 6), (3, 6), (4, 6), (5, 6), (0, 7), (1, 7), (2, 7), (3, 7), (4, 7), (5, 7), (0, 8)]), (21, [(0, 1), (0, 2), (0, 3), (1, 3), (2, 3), (0, 4), (1, 4), (2, 4), (0, 5), (1, 5), (2, 5), (0, 6)]), (23, [(0, 1), (0, 2), (0, 3), (0, 4), (1, 4), (2, 4), (3, 4), (0, 5), (1, 5), (2, 5), (3, 5), (4, 5), (0, 6), (1, 6), (2, 6), (3, 6), (4, 6), (0, 7), (1, 7), (2, 7), (3, 7), (4, 7), (0, 8), (1, 8), (2, 8), (3, 8), (4, 8), (0, 9), (1, 9), (2, 9), (3, 9), (4, 9), (0, 10), (1, 10), (2, 10), (3, 10), (4, 10), (5, 10), (6, 10), (7, 10), (8, 10), (9, 10), (0, 11), (1, 11), (2, 11), (3, 11), (4, 11), (5, 11), (6, 11), (7, 11), (8, 11), (9, 11), (0, 12), (1, 12), (2, 12), (3, 12), (4, 12), (0, 13), (1, 13), (2, 13), (3, 13), (4, 13), (0, 14), (1, 14), (2, 14), (3, 14)])]),
  (69, [(10, [(2, 5), (3, 5), (4, 5), (2, 6), (3, 6), (4, 6), (10, 12), (11, 12), (10, 13), (11, 13)]), (12, [(2, 4), (3, 4), (2, 5), (3, 5), (2, 6), (3, 6), (2, 8), (3, 8), (4, 8), (5, 8), (6, 8), (7, 8), (2, 9), (3, 9), (4, 9), (5, 9), (6, 9), (7, 9), (2, 10), (3, 10), (4, 10), (5, 10), (6, 10), (7, 10), (14, 16), (15, 16), (14, 17), (15, 17), (14, 19), (15, 19), (16, 19), (17, 19), (18, 19), (14, 20), (15, 20), (16, 20), (17, 20), (18, 20), (14, 21), (15, 21), (16, 21), (17, 21), (18, 21)]), (13, [(6, 8), (7, 8), (6, 9), (7, 9), (6, 10), (7, 10), (8, 10), (9, 10), (6, 11), (7, 11), (8, 11), (9, 11), (6, 12), (7, 12)])]),
  (75, [(6, [(0, 1), (0, 4), (1, 4), (2, 4), (3, 4), (0, 5), (1, 5), (2, 5), (3, 5), (4, 5), (0, 6), (1, 6), (2, 6), (3, 6), (0, 7), (1, 7), (2, 7), (3, 7)])]),
  (76, [(1, [(0, 5), (1, 5), (2, 5), (3, 5), (4, 5), (0, 6), (1, 6), (2, 6), (3, 6), (4, 6), (0, 7), (1, 7), (2, 7), (3, 7), (4, 7), (0, 8), (1, 8), (2, 8), (3, 8), (4, 8), (0, 9), (1, 9), (2, 9), (3, 9), (4, 9), (12, 13), (13, 14)])]),
  (133, [(6, [(0, 2), (1, 2), (0, 3), (1, 3), (0, 4), (1, 4), (0, 5), (1, 5), (0, 6), (1, 6), (0, 8), (1, 8), (2, 8), (3, 8), (4, 8), (5, 8), (6, 8), (7, 8), (0, 9), (1, 9), (2, 9), (3, 9), (4, 9), (5, 9), (6, 9), (7, 9), (0, 10), (1, 10), (2, 10), (3, 10), (4, 10), (5, 10), (6, 10), (7, 10), (0, 11), (1, 11), (2, 11), (3, 11), (4, 11), (5, 11), (6, 11), (7, 11), (0, 12), (1, 12), (2, 12), (3, 12), (4, 12), (5, 12), (6, 12), (7, 12), (15, 16), (16, 17)]), (12, [(0, 1), (0, 2), (1, 2), (0, 3), (1, 3), (0, 4), (1, 4), (0, 5), (1, 5), (0, 6), (1, 6), (0, 7), (1, 7), (2, 7), (3, 7), (4, 7), (5, 7), (6, 7), (0, 8), (1, 8), (2, 8), (3, 8), (4, 8), (5, 8), (6, 8), (0, 9), (1, 9), (2, 9), (3, 9), (4, 9), (5, 9), (6, 9), (7, 9), (8, 9), (0, 10), (1, 10), (2, 10), (3, 10), (4, 10), (5, 10), (6, 10), (7, 10), (8, 10), (0, 11), (1, 11)])]),
  (138, [(1, [(0, 3), (1, 3), (2, 3), (0, 4), (1, 4), (2, 4), (0, 6), (1, 6), (2, 6), (3, 6), (4, 6), (5, 6), (0, 7), (1, 7), (2, 7), (3, 7), (4, 7), (5, 7), (5, 9), (8, 9)])]),
  (143, [(2, [(0, 2), (1, 2), (0, 3), (1, 3)]), (3, [(0, 1), (0, 2), (0, 3), (0, 4), (1, 4), (2, 4), (3, 4), (0, 5), (1, 5), (2, 5), (3, 5), (0, 6), (1, 6), (2, 6), (3, 6), (4, 6), (5, 6), (0, 7), (1, 7), (2, 7), (3, 7), (4, 7), (5, 7), (0, 8), (1, 8), (2, 8), (3, 8), (4, 8), (5, 8), (0, 9), (1, 9), (2, 9), (3, 9), (4, 9), (5, 9), (0, 10), (1, 10), (2, 10), (3, 10), (4, 10), (5, 10), (0, 11), (1, 11), (2, 11), (3, 11), (4, 11), (5, 11), (6, 11), (7, 11), (8, 11), (9, 11), (10, 11), (0, 12), (1, 12), (2, 12), (3, 12), (4, 12), (5, 12), (6, 12), (7, 12), (8, 12), (9, 12), (10, 12), (0, 13), (1, 13), (2, 13), (3, 13), (4, 13), (5, 13), (6, 13), (7, 13), (8, 13), (9, 13), (10, 13), (0, 14), (1, 14), (2, 14), (3, 14), (4, 14), (5, 14), (0, 15), (1, 15), (2, 15), (3, 15), (4, 15), (5, 15), (0, 16), (1, 16), (2, 16), (3, 16)]), (8, [(0, 2), (1, 2), (0, 3), (1, 3)]), (12, [(0, 2), (1, 2), (0, 3), (1, 3)]), (10, [(0, 2), (1, 2), (0, 3), (1, 3), (0, 4), (1, 4), (2, 4), (3, 4), (0, 5), (1, 5), (2, 5), (3, 5), (2, 6), (3, 6), (2, 7), (3, 7)])]),
  (144, [(1, [(0, 5), (1, 5), (2, 5), (3, 5), (4, 5), (0, 6), (1, 6), (2, 6), (3, 6), (4, 6), (5, 6), (9, 10), (0, 11), (1, 11), (2, 11), (3, 11), (4, 11), (5, 11), (6, 11), (7, 11), (8, 11), (9, 11), (10, 11), (10, 12)]), (7, [(0, 2), (1, 2), (0, 3), (1, 3), (0, 4), (1, 4), (0, 5), (1, 5), (0, 6), (1, 6)])]),
  (145, [(6, [(0, 1), (0, 2), (0, 3), (0, 4), (0, 5), (0, 6), (0, 7), (1, 7), (2, 7), (3, 7), (4, 7), (5, 7), (6, 7), (0, 8), (1, 8), (2, 8), (3, 8), (4, 8), (5, 8), (6, 8), (7, 8), (0, 9), (1, 9), (2, 9), (3, 9), (4, 9), (5, 9), (6, 9), (7, 9), (0, 10), (1, 10), (2, 10), (3, 10), (4, 10), (5, 10), (6, 10)])]),
  (146, [(2, [(0, 1), (0, 2), (0, 3), (0, 4), (0, 5), (1, 5), (2, 5), (3, 5), (4, 5), (0, 6), (1, 6), (2, 6), (3, 6), (4, 6), (0, 7), (1, 7), (2, 7), (3, 7), (4, 7), (0, 8), (1, 8), (2, 8), (3, 8), (4, 8), (0, 9), (1, 9), (2, 9), (3, 9), (4, 9), (0, 10), (1, 10), (2, 10), (3, 10), (4, 10), (5, 10), (6, 10), (7, 10), (8, 10), (9, 10), (0, 11), (1, 11), (2, 11), (3, 11), (4, 11), (5, 11), (6, 11), (7, 11), (8, 11), (9, 11), (10, 11), (0, 12), (1, 12), (2, 12), (3, 12), (4, 12), (0, 13), (1, 13), (2, 13), (3, 13), (4, 13), (0, 14)]), (6, [(0, 1), (0, 2), (0, 3), (0, 4), (0, 5), (0, 6), (1, 6), (2, 6), (3, 6), (4, 6), (5, 6), (0, 7), (1, 7), (2, 7), (3, 7), (4, 7), (5, 7), (0, 8)])]),
  (147, [(1, [(0, 5), (1, 5), (2, 5), (3, 5), (4, 5), (0, 6), (1, 6), (2, 6), (3, 6), (4, 6), (0, 7), (1, 7), (2, 7), (3, 7), (4, 7), (0, 8), (1, 8), (2, 8), (3, 8), (4, 8), (0, 9), (1, 9), (2, 9), (3, 9), (4, 9), (5, 10), (6, 10), (7, 10), (8, 10), (9, 10), (5, 11), (6, 11), (7, 11), (8, 11), (9, 11)]), (7, [(0, 1), (0, 2), (0, 3), (0, 4), (0, 5), (1, 5), (2, 5), (3, 5), (4, 5), (0, 6), (1, 6), (2, 6), (3, 6), (4, 6), (0, 7)])]),
  (157, [(6, [(0, 2), (1, 2), (0, 3), (1, 3), (2, 4), (3, 4)])]),
  (166, [(13, [(0, 1), (0, 2), (0, 3), (0, 4), (4, 5)]), (14, [(0, 2), (1, 2), (0, 3), (1, 3), (2, 4), (3, 4), (2, 5), (3, 5)]), (15, [(0, 1), (0, 2), (0, 3), (0, 4), (0, 5), (0, 6), (0, 7), (0, 8), (8, 9)]), (17, [(0, 1), (0, 2), (0, 3), (0, 4), (4, 5)]), (20, [(0, 2), (1, 2), (0, 3), (1, 3), (0, 4), (1, 4), (2, 4), (3, 4), (0, 5), (1, 5), (2, 5), (3, 5), (2, 6), (3, 6), (4, 6), (5, 6), (2, 7), (3, 7), (4, 7), (5, 7), (4, 8), (5, 8), (4, 9), (5, 9)])]),
  (231, [(4, [(0, 1), (0, 2), (0, 3), (0, 4), (0, 5), (0, 6), (1, 6), (2, 6), (3, 6), (4, 6), (5, 6), (0, 7), (1, 7), (2, 7), (3, 7), (4, 7), (5, 7), (6, 7), (0, 8), (1, 8), (2, 8), (3, 8), (4, 8), (5, 8), (6, 8), (0, 9), (1, 9), (2, 9), (3, 9), (4, 9), (5, 9), (6, 9), (0, 10), (1, 10), (2, 10), (3, 10), (4, 10), (5, 10), (6, 10), (0, 11), (1, 11), (2, 11), (3, 11), (4, 11), (5, 11), (6, 11), (0, 12), (1, 12), (2, 12), (3, 12), (4, 12), (5, 12), (6, 12), (7, 12), (8, 12), (9, 12), (10, 12), (11, 12), (0, 13), (1, 13), (2, 13), (3, 13), (4, 13), (5, 13), (6, 13), (7, 13), (8, 13), (9, 13), (10, 13), (11, 13), (0, 14), (1, 14), (2, 14), (3, 14), (4, 14), (5, 14), (6, 14), (0, 15), (1, 15), (2, 15), (3, 15), (4, 15), (5, 15), (6, 15), (0, 16)]), (5, [(0, 5), (1, 5), (2, 5), (3, 5), (4, 5), (0, 6), (1, 6), (2, 6), (3, 6), (4, 6), (5, 6)]), (7, [(0, 1), (0, 2), (0, 3), (0, 4), (0, 5), (1, 5), (2, 5), (3, 5), (4, 5), (0, 6), (1, 6), (2, 6), (3, 6), (4, 6), (0, 7)])]),
  (236, [(10, [(0, 1), (0, 2), (0, 3), (6, 8), (7, 8), (6, 12), (7, 12), (8, 12), (9, 12), (10, 12), (11, 12), (6, 13), (7, 13), (8, 13), (9, 13), (10, 13), (11, 13)]), (13, [(0, 2), (1, 2), (0, 3), (1, 3), (0, 4), (1, 4)])]),
  (238, [(5, [(0, 1), (0, 3), (1, 3), (2, 3), (0, 4), (1, 4), (2, 4), (3, 4), (0, 5), (1, 5), (2, 5)])]),
  (242, [(6, [(0, 1), (0, 4), (1, 4), (2, 4), (3, 4), (0, 5), (1, 5), (2, 5), (3, 5), (4, 5), (0, 6), (1, 6), (2, 6), (3, 6), (0, 7), (1, 7), (2, 7), (3, 7)])]),
  (266, [(11, [(0, 1), (0, 2), (1, 2), (0, 3), (0, 5), (1, 5), (2, 5), (3, 5), (4, 5), (0, 6), (1, 6), (2, 6), (3, 6), (4, 6), (5, 6), (0, 7), (1, 7), (2, 7), (3, 7), (4, 7)]), (15, [(0, 1), (0, 2), (1, 2), (0, 3), (0, 5), (1, 5), (2, 5), (3, 5), (4, 5), (0, 6), (1, 6), (2, 6), (3, 6), (4, 6), (5, 6), (0, 7), (1, 7), (2, 7), (3, 7), (4, 7)])]),
  (292, [(1, [(0, 2), (1, 2), (0, 6), (1, 6), (2, 6), (3, 6), (4, 6), (5, 6), (0, 7), (1, 7), (2, 7), (3, 7), (4, 7), (5, 7)])]),
  (293, [(11, [(0, 1), (0, 2), (1, 2), (0, 3), (0, 5), (1, 5), (2, 5), (3, 5), (4, 5), (0, 6), (1, 6), (2, 6), (3, 6), (4, 6), (5, 6), (0, 7), (1, 7), (2, 7), (3, 7), (4, 7)]), (15, [(0, 1), (0, 2), (1, 2), (0, 3), (0, 5), (1, 5), (2, 5), (3, 5), (4, 5), (0, 6), (1, 6), (2, 6), (3, 6), (4, 6), (5, 6), (0, 7), (1, 7), (2, 7), (3, 7), (4, 7)])]),
  (295, [(11, [(0, 1), (0, 2), (1, 2), (0, 3), (0, 5), (1, 5), (2, 5), (3, 5), (4, 5), (0, 6), (1, 6), (2, 6), (3, 6), (4, 6), (5, 6), (0, 7), (1, 7), (2, 7), (3, 7), (4, 7)]), (15, [(0, 1), (0, 2), (1, 2), (0, 3), (0, 5), (1, 5), (2, 5), (3, 5), (4, 5), (0, 6), (1, 6), (2, 6), (3, 6), (4, 6), (5, 6), (0, 7), (1, 7), (2, 7), (3, 7), (4, 7)])]),
  (317, [(1, [(0, 1), (0, 4), (1, 4), (2, 4), (3, 4)])]),
  (322, [(1, [(0, 1), (0, 2), (0, 3), (0, 4), (0, 5), (1, 5), (2, 5), (3, 5), (4, 5), (0, 6), (1, 6), (2, 6), (3, 6), (4, 6), (5, 6), (0, 7), (1, 7), (2, 7), (3, 7), (4, 7), (5, 7), (0, 8), (1, 8), (2, 8), (3, 8), (4, 8), (5, 8), (0, 9), (1, 9), (2, 9), (3, 9), (4, 9), (5, 9), (0, 10), (1, 10), (2, 10), (3, 10), (4, 10), (5, 10), (0, 11), (1, 11), (2, 11), (3, 11), (4, 11), (0, 12)])])]
noncomputable def Tryz.ptS (K r : Nat) : List (Nat × Nat) := match getLQ Tryz.ptLS K with | some l => (match getLQ l r with | some x => x | none => []) | none => []
noncomputable def Tryz.ftLS : List (Nat × Func) := [(3, Tryz.f3), (9, Tryz.f9), (10, Tryz.f10), (11, Tryz.f11), (12, Tryz.f12), (13, Tryz.f13), (14, Tryz.f14), (15, Tryz.f15), (16, Tryz.f16), (24, Tryz.f24), (61, Tryz.f61), (62, Tryz.f62), (63, Tryz.f63), (64, Tryz.f64), (65, Tryz.f65), (66, Tryz.f66), (67, Tryz.f67), (68, Tryz.f68), (69, Tryz.f69), (70, Tryz.f70), (71, Tryz.f71), (72, Tryz.f72), (73, Tryz.f73), (74, Tryz.f74), (75, Tryz.f75), (76, Tryz.f76), (81, Tryz.f81), (84, Tryz.f84), (85, Tryz.f85), (123, Tryz.f123), (127, Tryz.f127), (133, Tryz.f133), (134, Tryz.f134), (135, Tryz.f135), (136, Tryz.f136), (137, Tryz.f137), (138, Tryz.f138), (139, Tryz.f139), (140, Tryz.f140), (141, Tryz.f141), (142, Tryz.f142), (143, Tryz.f143), (144, Tryz.f144), (145, Tryz.f145), (146, Tryz.f146), (147, Tryz.f147), (148, Tryz.f148), (149, Tryz.f149), (150, Tryz.f150), (151, Tryz.f151), (152, Tryz.f152), (153, Tryz.f153), (154, Tryz.f154), (155, Tryz.f155), (156, Tryz.f156), (157, Tryz.f157), (158, Tryz.f158), (159, Tryz.f159), (160, Tryz.f160), (161, Tryz.f161), (166, Tryz.f166), (167, Tryz.f167), (173, Tryz.f173), (174, Tryz.f174), (227, Tryz.f227), (228, Tryz.f228), (229, Tryz.f229), (230, Tryz.f230), (231, Tryz.f231), (232, Tryz.f232), (233, Tryz.f233), (234, Tryz.f234), (235, Tryz.f235), (236, Tryz.f236), (237, Tryz.f237), (238, Tryz.f238), (239, Tryz.f239), (240, Tryz.f240), (241, Tryz.f241), (242, Tryz.f242), (243, Tryz.f243), (244, Tryz.f244), (245, Tryz.f245), (246, Tryz.f246), (250, Tryz.f250), (251, Tryz.f251), (252, Tryz.f252), (253, Tryz.f253), (262, Tryz.f262), (266, Tryz.f266), (290, Tryz.f290), (291, Tryz.f291), (292, Tryz.f292), (293, Tryz.f293), (294, Tryz.f294), (295, Tryz.f295), (296, Tryz.f296), (297, Tryz.f297), (298, Tryz.f298), (299, Tryz.f299), (301, Tryz.f301), (317, Tryz.f317), (321, Tryz.f321), (322, Tryz.f322), (323, Tryz.f323)]
def Tryz.mtS : List (Nat × List (Nat × List Nat)) := [
  (3, [(5, [0, 0, 2, 6, 15, 31, 63, 63, 63, 63, 0, 1151, 3327, 7679, 16383]), (8, [0, 0, 2, 6, 15, 31, 63, 63, 63, 63, 127, 1279, 3583, 8191]), (15, [0, 1, 3, 0, 15, 31, 63, 127, 255, 63, 575, 2047, 4095, 8191, 16383, 32767, 65535, 131071, 262143, 524287, 1048575]), (16, [0, 1, 3, 7, 15, 31, 63, 127, 255, 511, 1023, 2047, 4095, 511, 16383, 32767, 65535, 131071, 262143, 524287, 1048575, 2097151, 4194303, 8388607, 16777215, 33554431, 67108863, 134217727, 268435455, 536870911, 1073741823, 2147483647, 4294967295, 8589934591, 17179869183, 34359738367, 68719476735, 137438953471, 274877906943, 549755813887, 1099511627775, 2199023255551, 4398046511103, 1099511627775, 9895604649983, 35184372088831, 70368744177663, 140737488355327])]),
  (10, [(2, [0, 0, 3, 7, 15, 15, 31, 127])]),
  (13, [(11, [0, 1, 3, 7, 0, 16, 48, 112, 0, 256, 768, 1792, 15, 4351, 16383, 32767])]),
  (16, [(2, [0, 1, 3, 7, 15, 31, 63, 127, 255, 511, 1023, 2047, 4095, 8191, 16383, 32767, 65535, 131071, 262143, 524287, 1048575, 2097151, 4194303, 8388607, 16777215, 33554431, 67108863, 134217727, 268435455, 536870911, 1073741823, 2147483647, 4294967295, 8589934591, 17179869183, 34359738367, 68719476735, 137438953471, 274877906943, 549755813887, 1099511627775, 2199023255551, 4398046511103, 8796093022207, 17592186044415, 35184372088831, 1099511627775, 71468255805439, 212205744160767, 493680720871423, 1056630674292735, 2251799813685247, 4503599627370495, 9007199254740991, 18014398509481983, 36028797018963967, 72057594037927935, 144115188075855871, 288230376151711743, 576460752303423487, 1152921504606846975, 2305843009213693951, 4611686018427387903, 9223372036854775807, 18446744073709551615, 36893488147419103231, 73786976294838206463, 147573952589676412927, 295147905179352825855, 590295810358705651711, 1180591620717411303423, 2361183241434822606847, 4722366482869645213695, 9444732965739290427391, 18889465931478580854783, 37778931862957161709567, 75557863725914323419135, 151115727451828646838271, 302231454903657293676543, 604462909807314587353087, 1208925819614629174706175, 2417851639229258349412351, 4835703278458516698824703, 9671406556917033397649407, 19342813113834066795298815, 38685626227668133590597631, 77371252455336267181195263, 154742504910672534362390527, 309485009821345068724781055, 618970019642690137449562111, 1237940039285380274899124223, 2475880078570760549798248447, 4951760157141521099596496895, 9903520314283042199192993791, 19807040628566084398385987583, 39614081257132168796771975167, 79228162514264337593543950335, 158456325028528675187087900671, 316912650057057350374175801343, 633825300114114700748351602687, 1267650600228229401496703205375, 2535301200456458802993406410751, 5070602400912917605986812821503, 10141204801825835211973625643007, 20282409603651670423947251286015, 40564819207303340847894502572031]), (9, [0, 1, 0, 4, 12, 28, 60, 127, 255, 511, 1023, 511, 4095, 8191, 16383, 32767, 65535, 131071, 262143, 524287, 1048575, 2097151, 4194303, 8388607, 16777215, 33554431, 67108863, 134217727, 268435455, 536870911, 1073741823, 2147483647, 4294967295, 8589934591, 17179869183, 34359738367, 68719476735, 137438953471, 274877906943, 549755813887, 1099511627775, 2199023255551, 4398046511103, 8796093022207]), (17, [0, 0, 2, 6, 14, 30, 63, 127, 255, 511, 255, 1279, 4095, 8191, 16383, 32767, 65535, 131071, 65535, 327679, 1048575, 2097151, 4194303, 8388607, 16777215, 33554431, 67108863, 134217727])]),
  (61, [(6, [0, 1, 3, 7, 0, 16, 48, 112, 0, 256, 768, 1792, 15, 4351, 16383, 32767])]),
  (62, [(7, [0, 1, 3, 0, 8, 31, 63, 127])]),
  (64, [(1, [0, 1, 3, 7, 0, 16, 48, 127, 255, 511, 1023]), (2, [0, 1, 3, 0, 8, 31, 0, 64, 255, 0, 512, 2047, 1759, 8191, 16383, 32767, 65535, 131071, 262143, 524287])]),
  (65, [(11, [0, 1, 3, 3, 3, 27, 3, 127, 255, 511])]),
  (66, [(1, [0, 1, 0, 4, 15, 31]), (15, [0, 0, 2, 6, 14, 30, 0, 64, 254, 511, 1023, 2047, 4095]), (21, [0, 0, 2, 0, 8, 24, 62, 127]), (23, [0, 0, 2, 6, 0, 0, 32, 96, 224, 480, 0, 1024, 4064, 8160, 16368, 32767])]),
  (69, [(10, [0, 1, 3, 7, 15, 3, 35, 127, 255, 511, 1023, 2047, 1023, 5119, 16383, 32767, 65535]), (12, [0, 1, 3, 7, 3, 19, 51, 127, 3, 259, 771, 2047, 4095, 8191, 16383, 32767, 16383, 81919, 262143, 16383, 540671, 1589247, 4194303, 8388607, 16777215]), (13, [0, 1, 3, 7, 15, 31, 63, 127, 63, 319, 63, 1087, 3903, 8191, 16383, 32767, 65535])]),
  (75, [(6, [0, 0, 3, 7, 0, 0, 48, 112, 255])]),
  (76, [(1, [0, 1, 3, 7, 15, 0, 32, 96, 224, 480, 1023, 2047, 4095, 4095, 8191, 32767])]),
  (133, [(6, [0, 1, 0, 4, 12, 28, 60, 127, 0, 256, 768, 1792, 3840, 8191, 16383, 32767, 32767, 65535, 262143]), (12, [0, 0, 0, 4, 12, 28, 60, 0, 128, 0, 512, 2044, 4095])]),
  (138, [(1, [0, 1, 3, 0, 8, 31, 0, 64, 255, 223, 1023, 2047, 4095, 8191, 16383])]),
  (143, [(2, [0, 1, 0, 4, 15]), (3, [0, 0, 2, 6, 0, 16, 0, 64, 192, 448, 960, 0, 2048, 6144, 16320, 32704, 65520, 131071]), (8, [0, 1, 0, 4, 15, 31]), (12, [0, 1, 0, 4, 15, 31]), (10, [0, 1, 0, 4, 0, 16, 51, 115, 255, 511])]),
  (144, [(1, [0, 1, 3, 7, 15, 0, 0, 127, 255, 511, 511, 0, 3071, 8191]), (7, [0, 1, 0, 4, 12, 28, 60, 127, 255])]),
  (145, [(6, [0, 0, 2, 6, 14, 30, 62, 0, 0, 256, 896, 2047])]),
  (146, [(2, [0, 0, 2, 6, 14, 0, 32, 96, 224, 480, 0, 0, 4064, 8160, 16382, 32767, 65535, 131071]), (6, [0, 0, 2, 6, 14, 30, 0, 64, 254, 511, 1023, 2047, 4095])]),
  (147, [(1, [0, 1, 3, 7, 15, 0, 32, 96, 224, 480, 31, 1055, 4095, 8191]), (7, [0, 0, 2, 6, 14, 0, 32, 126, 255, 511, 1023])]),
  (157, [(6, [0, 1, 0, 4, 3, 31])]),
  (166, [(13, [0, 0, 2, 6, 14, 15, 63]), (14, [0, 1, 0, 4, 3, 19, 63, 127]), (15, [0, 0, 2, 6, 14, 30, 62, 126, 254, 255, 1023]), (17, [0, 0, 2, 6, 14, 15, 63]), (20, [0, 1, 0, 4, 0, 16, 3, 67, 207, 463, 1023, 2047])]),
  (231, [(4, [0, 0, 2, 6, 14, 30, 0, 0, 128, 384, 896, 1920, 0, 4096, 16256, 32640, 65534, 131071, 262143, 524287, 1048575]), (5, [0, 1, 3, 7, 15, 0, 0, 127, 255, 511]), (7, [0, 0, 2, 6, 14, 0, 32, 126, 255, 511, 1023])]),
  (236, [(10, [0, 0, 2, 6, 15, 31, 63, 127, 63, 511, 1023, 2047, 63, 4159, 16383, 32767]), (13, [0, 1, 0, 4, 12, 31])]),
  (238, [(5, [0, 0, 3, 0, 0, 24, 63, 127])]),
  (242, [(6, [0, 0, 3, 7, 0, 0, 48, 112, 255])]),
  (266, [(11, [0, 0, 0, 6, 15, 0, 0, 96, 255]), (15, [0, 0, 0, 6, 15, 0, 0, 96, 255])]),
  (292, [(1, [0, 1, 0, 7, 15, 31, 0, 64, 255, 511])]),
  (293, [(11, [0, 0, 0, 6, 15, 0, 0, 96, 255]), (15, [0, 0, 0, 6, 15, 0, 0, 96, 255])]),
  (295, [(11, [0, 0, 0, 6, 15, 0, 0, 96, 255]), (15, [0, 0, 0, 6, 15, 0, 0, 96, 255])]),
  (317, [(1, [0, 0, 3, 7, 0, 31, 63])]),
  (322, [(1, [0, 0, 2, 6, 14, 0, 0, 64, 192, 448, 960, 2016, 4094, 8191, 16383, 32767])])]
noncomputable def Tryz.mqS (K r : Nat) : List Nat := match getLQ Tryz.mtS K with | some l => (match getLQ l r with | some x => x | none => []) | none => []
theorem Tryz.okS_3 : bodyOk Tryz.f3 (Tryz.ptS 3) = true := body_of_M (mt := Tryz.mqS 3) (by kernel_rfl)
theorem Tryz.okS_9 : bodyOk Tryz.f9 (Tryz.ptS 9) = true := body_of_M (mt := Tryz.mqS 9) (by kernel_rfl)
theorem Tryz.okS_10 : bodyOk Tryz.f10 (Tryz.ptS 10) = true := body_of_M (mt := Tryz.mqS 10) (by kernel_rfl)
theorem Tryz.okS_11 : bodyOk Tryz.f11 (Tryz.ptS 11) = true := body_of_M (mt := Tryz.mqS 11) (by kernel_rfl)
theorem Tryz.okS_12 : bodyOk Tryz.f12 (Tryz.ptS 12) = true := body_of_M (mt := Tryz.mqS 12) (by kernel_rfl)
theorem Tryz.okS_13 : bodyOk Tryz.f13 (Tryz.ptS 13) = true := body_of_M (mt := Tryz.mqS 13) (by kernel_rfl)
theorem Tryz.okS_14 : bodyOk Tryz.f14 (Tryz.ptS 14) = true := body_of_M (mt := Tryz.mqS 14) (by kernel_rfl)
theorem Tryz.okS_15 : bodyOk Tryz.f15 (Tryz.ptS 15) = true := body_of_M (mt := Tryz.mqS 15) (by kernel_rfl)
theorem Tryz.okS_16 : bodyOk Tryz.f16 (Tryz.ptS 16) = true := body_of_M (mt := Tryz.mqS 16) (by kernel_rfl)
theorem Tryz.okS_24 : bodyOk Tryz.f24 (Tryz.ptS 24) = true := body_of_M (mt := Tryz.mqS 24) (by kernel_rfl)
theorem Tryz.okS_61 : bodyOk Tryz.f61 (Tryz.ptS 61) = true := body_of_M (mt := Tryz.mqS 61) (by kernel_rfl)
theorem Tryz.okS_62 : bodyOk Tryz.f62 (Tryz.ptS 62) = true := body_of_M (mt := Tryz.mqS 62) (by kernel_rfl)
theorem Tryz.okS_63 : bodyOk Tryz.f63 (Tryz.ptS 63) = true := body_of_M (mt := Tryz.mqS 63) (by kernel_rfl)
theorem Tryz.okS_64 : bodyOk Tryz.f64 (Tryz.ptS 64) = true := body_of_M (mt := Tryz.mqS 64) (by kernel_rfl)
theorem Tryz.okS_65 : bodyOk Tryz.f65 (Tryz.ptS 65) = true := body_of_M (mt := Tryz.mqS 65) (by kernel_rfl)
theorem Tryz.okS_66 : bodyOk Tryz.f66 (Tryz.ptS 66) = true := body_of_M (mt := Tryz.mqS 66) (by kernel_rfl)
theorem Tryz.okS_67 : bodyOk Tryz.f67 (Tryz.ptS 67) = true := body_of_M (mt := Tryz.mqS 67) (by kernel_rfl)
theorem Tryz.okS_68 : bodyOk Tryz.f68 (Tryz.ptS 68) = true := body_of_M (mt := Tryz.mqS 68) (by kernel_rfl)
theorem Tryz.okS_69 : bodyOk Tryz.f69 (Tryz.ptS 69) = true := body_of_M (mt := Tryz.mqS 69) (by kernel_rfl)
theorem Tryz.okS_70 : bodyOk Tryz.f70 (Tryz.ptS 70) = true := body_of_M (mt := Tryz.mqS 70) (by kernel_rfl)
theorem Tryz.okS_71 : bodyOk Tryz.f71 (Tryz.ptS 71) = true := body_of_M (mt := Tryz.mqS 71) (by kernel_rfl)
theorem Tryz.okS_72 : bodyOk Tryz.f72 (Tryz.ptS 72) = true := body_of_M (mt := Tryz.mqS 72) (by kernel_rfl)
theorem Tryz.okS_73 : bodyOk Tryz.f73 (Tryz.ptS 73) = true := body_of_M (mt := Tryz.mqS 73) (by kernel_rfl)
theorem Tryz.okS_74 : bodyOk Tryz.f74 (Tryz.ptS 74) = true := body_of_M (mt := Tryz.mqS 74) (by kernel_rfl)
theorem Tryz.okS_75 : bodyOk Tryz.f75 (Tryz.ptS 75) = true := body_of_M (mt := Tryz.mqS 75) (by kernel_rfl)
theorem Tryz.okS_76 : bodyOk Tryz.f76 (Tryz.ptS 76) = true := body_of_M (mt := Tryz.mqS 76) (by kernel_rfl)
theorem Tryz.okS_81 : bodyOk Tryz.f81 (Tryz.ptS 81) = true := body_of_M (mt := Tryz.mqS 81) (by kernel_rfl)
theorem Tryz.okS_84 : bodyOk Tryz.f84 (Tryz.ptS 84) = true := body_of_M (mt := Tryz.mqS 84) (by kernel_rfl)
theorem Tryz.okS_85 : bodyOk Tryz.f85 (Tryz.ptS 85) = true := body_of_M (mt := Tryz.mqS 85) (by kernel_rfl)
theorem Tryz.okS_123 : bodyOk Tryz.f123 (Tryz.ptS 123) = true := body_of_M (mt := Tryz.mqS 123) (by kernel_rfl)
theorem Tryz.okS_127 : bodyOk Tryz.f127 (Tryz.ptS 127) = true := body_of_M (mt := Tryz.mqS 127) (by kernel_rfl)
theorem Tryz.okS_133 : bodyOk Tryz.f133 (Tryz.ptS 133) = true := body_of_M (mt := Tryz.mqS 133) (by kernel_rfl)
theorem Tryz.okS_134 : bodyOk Tryz.f134 (Tryz.ptS 134) = true := body_of_M (mt := Tryz.mqS 134) (by kernel_rfl)
theorem Tryz.okS_135 : bodyOk Tryz.f135 (Tryz.ptS 135) = true := body_of_M (mt := Tryz.mqS 135) (by kernel_rfl)
theorem Tryz.okS_136 : bodyOk Tryz.f136 (Tryz.ptS 136) = true := body_of_M (mt := Tryz.mqS 136) (by kernel_rfl)
theorem Tryz.okS_137 : bodyOk Tryz.f137 (Tryz.ptS 137) = true := body_of_M (mt := Tryz.mqS 137) (by kernel_rfl)
theorem Tryz.okS_138 : bodyOk Tryz.f138 (Tryz.ptS 138) = true := body_of_M (mt := Tryz.mqS 138) (by kernel_rfl)
theorem Tryz.okS_139 : bodyOk Tryz.f139 (Tryz.ptS 139) = true := body_of_M (mt := Tryz.mqS 139) (by kernel_rfl)
theorem Tryz.okS_140 : bodyOk Tryz.f140 (Tryz.ptS 140) = true := body_of_M (mt := Tryz.mqS 140) (by kernel_rfl)
theorem Tryz.okS_141 : bodyOk Tryz.f141 (Tryz.ptS 141) = true := body_of_M (mt := Tryz.mqS 141) (by kernel_rfl)
theorem Tryz.okS_142 : bodyOk Tryz.f142 (Tryz.ptS 142) = true := body_of_M (mt := Tryz.mqS 142) (by kernel_rfl)
theorem Tryz.okS_143 : bodyOk Tryz.f143 (Tryz.ptS 143) = true := body_of_M (mt := Tryz.mqS 143) (by kernel_rfl)
theorem Tryz.okS_144 : bodyOk Tryz.f144 (Tryz.ptS 144) = true := body_of_M (mt := Tryz.mqS 144) (by kernel_rfl)
theorem Tryz.okS_145 : bodyOk Tryz.f145 (Tryz.ptS 145) = true := body_of_M (mt := Tryz.mqS 145) (by kernel_rfl)
theorem Tryz.okS_146 : bodyOk Tryz.f146 (Tryz.ptS 146) = true := body_of_M (mt := Tryz.mqS 146) (by kernel_rfl)
theorem Tryz.okS_147 : bodyOk Tryz.f147 (Tryz.ptS 147) = true := body_of_M (mt := Tryz.mqS 147) (by kernel_rfl)
theorem Tryz.okS_148 : bodyOk Tryz.f148 (Tryz.ptS 148) = true := body_of_M (mt := Tryz.mqS 148) (by kernel_rfl)
theorem Tryz.okS_149 : bodyOk Tryz.f149 (Tryz.ptS 149) = true := body_of_M (mt := Tryz.mqS 149) (by kernel_rfl)
theorem Tryz.okS_150 : bodyOk Tryz.f150 (Tryz.ptS 150) = true := body_of_M (mt := Tryz.mqS 150) (by kernel_rfl)
theorem Tryz.okS_151 : bodyOk Tryz.f151 (Tryz.ptS 151) = true := body_of_M (mt := Tryz.mqS 151) (by kernel_rfl)
theorem Tryz.okS_152 : bodyOk Tryz.f152 (Tryz.ptS 152) = true := body_of_M (mt := Tryz.mqS 152) (by kernel_rfl)
theorem Tryz.okS_153 : bodyOk Tryz.f153 (Tryz.ptS 153) = true := body_of_M (mt := Tryz.mqS 153) (by kernel_rfl)
theorem Tryz.okS_154 : bodyOk Tryz.f154 (Tryz.ptS 154) = true := body_of_M (mt := Tryz.mqS 154) (by kernel_rfl)
theorem Tryz.okS_155 : bodyOk Tryz.f155 (Tryz.ptS 155) = true := body_of_M (mt := Tryz.mqS 155) (by kernel_rfl)
theorem Tryz.okS_156 : bodyOk Tryz.f156 (Tryz.ptS 156) = true := body_of_M (mt := Tryz.mqS 156) (by kernel_rfl)
theorem Tryz.okS_157 : bodyOk Tryz.f157 (Tryz.ptS 157) = true := body_of_M (mt := Tryz.mqS 157) (by kernel_rfl)
theorem Tryz.okS_158 : bodyOk Tryz.f158 (Tryz.ptS 158) = true := body_of_M (mt := Tryz.mqS 158) (by kernel_rfl)
theorem Tryz.okS_159 : bodyOk Tryz.f159 (Tryz.ptS 159) = true := body_of_M (mt := Tryz.mqS 159) (by kernel_rfl)
theorem Tryz.okS_160 : bodyOk Tryz.f160 (Tryz.ptS 160) = true := body_of_M (mt := Tryz.mqS 160) (by kernel_rfl)
theorem Tryz.okS_161 : bodyOk Tryz.f161 (Tryz.ptS 161) = true := body_of_M (mt := Tryz.mqS 161) (by kernel_rfl)
theorem Tryz.okS_166 : bodyOk Tryz.f166 (Tryz.ptS 166) = true := body_of_M (mt := Tryz.mqS 166) (by kernel_rfl)
theorem Tryz.okS_167 : bodyOk Tryz.f167 (Tryz.ptS 167) = true := body_of_M (mt := Tryz.mqS 167) (by kernel_rfl)
theorem Tryz.okS_173 : bodyOk Tryz.f173 (Tryz.ptS 173) = true := body_of_M (mt := Tryz.mqS 173) (by kernel_rfl)
theorem Tryz.okS_174 : bodyOk Tryz.f174 (Tryz.ptS 174) = true := body_of_M (mt := Tryz.mqS 174) (by kernel_rfl)
theorem Tryz.okS_227 : bodyOk Tryz.f227 (Tryz.ptS 227) = true := body_of_M (mt := Tryz.mqS 227) (by kernel_rfl)
theorem Tryz.okS_228 : bodyOk Tryz.f228 (Tryz.ptS 228) = true := body_of_M (mt := Tryz.mqS 228) (by kernel_rfl)
theorem Tryz.okS_229 : bodyOk Tryz.f229 (Tryz.ptS 229) = true := body_of_M (mt := Tryz.mqS 229) (by kernel_rfl)
theorem Tryz.okS_230 : bodyOk Tryz.f230 (Tryz.ptS 230) = true := body_of_M (mt := Tryz.mqS 230) (by kernel_rfl)
theorem Tryz.okS_231 : bodyOk Tryz.f231 (Tryz.ptS 231) = true := body_of_M (mt := Tryz.mqS 231) (by kernel_rfl)
theorem Tryz.okS_232 : bodyOk Tryz.f232 (Tryz.ptS 232) = true := body_of_M (mt := Tryz.mqS 232) (by kernel_rfl)
theorem Tryz.okS_233 : bodyOk Tryz.f233 (Tryz.ptS 233) = true := body_of_M (mt := Tryz.mqS 233) (by kernel_rfl)
theorem Tryz.okS_234 : bodyOk Tryz.f234 (Tryz.ptS 234) = true := body_of_M (mt := Tryz.mqS 234) (by kernel_rfl)
theorem Tryz.okS_235 : bodyOk Tryz.f235 (Tryz.ptS 235) = true := body_of_M (mt := Tryz.mqS 235) (by kernel_rfl)
theorem Tryz.okS_236 : bodyOk Tryz.f236 (Tryz.ptS 236) = true := body_of_M (mt := Tryz.mqS 236) (by kernel_rfl)
theorem Tryz.okS_237 : bodyOk Tryz.f237 (Tryz.ptS 237) = true := body_of_M (mt := Tryz.mqS 237) (by kernel_rfl)
theorem Tryz.okS_238 : bodyOk Tryz.f238 (Tryz.ptS 238) = true := body_of_M (mt := Tryz.mqS 238) (by kernel_rfl)
theorem Tryz.okS_239 : bodyOk Tryz.f239 (Tryz.ptS 239) = true := body_of_M (mt := Tryz.mqS 239) (by kernel_rfl)
theorem Tryz.okS_240 : bodyOk Tryz.f240 (Tryz.ptS 240) = true := body_of_M (mt := Tryz.mqS 240) (by kernel_rfl)
theorem Tryz.okS_241 : bodyOk Tryz.f241 (Tryz.ptS 241) = true := body_of_M (mt := Tryz.mqS 241) (by kernel_rfl)
theorem Tryz.okS_242 : bodyOk Tryz.f242 (Tryz.ptS 242) = true := body_of_M (mt := Tryz.mqS 242) (by kernel_rfl)
theorem Tryz.okS_243 : bodyOk Tryz.f243 (Tryz.ptS 243) = true := body_of_M (mt := Tryz.mqS 243) (by kernel_rfl)
theorem Tryz.okS_244 : bodyOk Tryz.f244 (Tryz.ptS 244) = true := body_of_M (mt := Tryz.mqS 244) (by kernel_rfl)
theorem Tryz.okS_245 : bodyOk Tryz.f245 (Tryz.ptS 245) = true := body_of_M (mt := Tryz.mqS 245) (by kernel_rfl)
theorem Tryz.okS_246 : bodyOk Tryz.f246 (Tryz.ptS 246) = true := body_of_M (mt := Tryz.mqS 246) (by kernel_rfl)
theorem Tryz.okS_250 : bodyOk Tryz.f250 (Tryz.ptS 250) = true := body_of_M (mt := Tryz.mqS 250) (by kernel_rfl)
theorem Tryz.okS_251 : bodyOk Tryz.f251 (Tryz.ptS 251) = true := body_of_M (mt := Tryz.mqS 251) (by kernel_rfl)
theorem Tryz.okS_252 : bodyOk Tryz.f252 (Tryz.ptS 252) = true := body_of_M (mt := Tryz.mqS 252) (by kernel_rfl)
theorem Tryz.okS_253 : bodyOk Tryz.f253 (Tryz.ptS 253) = true := body_of_M (mt := Tryz.mqS 253) (by kernel_rfl)
theorem Tryz.okS_262 : bodyOk Tryz.f262 (Tryz.ptS 262) = true := body_of_M (mt := Tryz.mqS 262) (by kernel_rfl)
theorem Tryz.okS_266 : bodyOk Tryz.f266 (Tryz.ptS 266) = true := body_of_M (mt := Tryz.mqS 266) (by kernel_rfl)
theorem Tryz.okS_290 : bodyOk Tryz.f290 (Tryz.ptS 290) = true := body_of_M (mt := Tryz.mqS 290) (by kernel_rfl)
theorem Tryz.okS_291 : bodyOk Tryz.f291 (Tryz.ptS 291) = true := body_of_M (mt := Tryz.mqS 291) (by kernel_rfl)
theorem Tryz.okS_292 : bodyOk Tryz.f292 (Tryz.ptS 292) = true := body_of_M (mt := Tryz.mqS 292) (by kernel_rfl)
theorem Tryz.okS_293 : bodyOk Tryz.f293 (Tryz.ptS 293) = true := body_of_M (mt := Tryz.mqS 293) (by kernel_rfl)
theorem Tryz.okS_294 : bodyOk Tryz.f294 (Tryz.ptS 294) = true := body_of_M (mt := Tryz.mqS 294) (by kernel_rfl)
theorem Tryz.okS_295 : bodyOk Tryz.f295 (Tryz.ptS 295) = true := body_of_M (mt := Tryz.mqS 295) (by kernel_rfl)
theorem Tryz.okS_296 : bodyOk Tryz.f296 (Tryz.ptS 296) = true := body_of_M (mt := Tryz.mqS 296) (by kernel_rfl)
theorem Tryz.okS_297 : bodyOk Tryz.f297 (Tryz.ptS 297) = true := body_of_M (mt := Tryz.mqS 297) (by kernel_rfl)
theorem Tryz.okS_298 : bodyOk Tryz.f298 (Tryz.ptS 298) = true := body_of_M (mt := Tryz.mqS 298) (by kernel_rfl)
theorem Tryz.okS_299 : bodyOk Tryz.f299 (Tryz.ptS 299) = true := body_of_M (mt := Tryz.mqS 299) (by kernel_rfl)
theorem Tryz.okS_301 : bodyOk Tryz.f301 (Tryz.ptS 301) = true := body_of_M (mt := Tryz.mqS 301) (by kernel_rfl)
theorem Tryz.okS_317 : bodyOk Tryz.f317 (Tryz.ptS 317) = true := body_of_M (mt := Tryz.mqS 317) (by kernel_rfl)
theorem Tryz.okS_321 : bodyOk Tryz.f321 (Tryz.ptS 321) = true := body_of_M (mt := Tryz.mqS 321) (by kernel_rfl)
theorem Tryz.okS_322 : bodyOk Tryz.f322 (Tryz.ptS 322) = true := body_of_M (mt := Tryz.mqS 322) (by kernel_rfl)
theorem Tryz.okS_323 : bodyOk Tryz.f323 (Tryz.ptS 323) = true := body_of_M (mt := Tryz.mqS 323) (by kernel_rfl)
theorem Tryz.ftOkS : FtOk Tryz.prog (getLQ Tryz.ftLS) Tryz.ptS := FtL.okQ (FtL.cons Tryz.func3 (by decide) Tryz.okS_3 (FtL.cons Tryz.func9 (by decide) Tryz.okS_9 (FtL.cons Tryz.func10 (by decide) Tryz.okS_10 (FtL.cons Tryz.func11 (by decide) Tryz.okS_11 (FtL.cons Tryz.func12 (by decide) Tryz.okS_12 (FtL.cons Tryz.func13 (by decide) Tryz.okS_13 (FtL.cons Tryz.func14 (by decide) Tryz.okS_14 (FtL.cons Tryz.func15 (by decide) Tryz.okS_15 (FtL.cons Tryz.func16 (by decide) Tryz.okS_16 (FtL.cons Tryz.func24 (by decide) Tryz.okS_24 (FtL.cons Tryz.func61 (by decide) Tryz.okS_61 (FtL.cons Tryz.func62 (by decide) Tryz.okS_62 (FtL.cons Tryz.func63 (by decide) Tryz.okS_63 (FtL.cons Tryz.func64 (by decide) Tryz.okS_64 (FtL.cons Tryz.func65 (by decide) Tryz.okS_65 (FtL.cons Tryz.func66 (by decide) Tryz.okS_66 (FtL.cons Tryz.func67 (by decide) Tryz.okS_67 (FtL.cons Tryz.func68 (by decide) Tryz.okS_68 (FtL.cons Tryz.func69 (by decide) Tryz.okS_69 (FtL.cons Tryz.func70 (by decide) Tryz.okS_70 (FtL.cons Tryz.func71 (by decide) Tryz.okS_71 (FtL.cons Tryz.func72 (by decide) Tryz.okS_72 (FtL.cons Tryz.func73 (by decide) Tryz.okS_73 (FtL.cons Tryz.func74 (by decide) Tryz.okS_74 (FtL.cons Tryz.func75 (by decide) Tryz.okS_75 (FtL.cons Tryz.func76 (by decide) Tryz.okS_76 (FtL.cons Tryz.func81 (by decide) Tryz.okS_81 (FtL.cons Tryz.func84 (by decide) Tryz.okS_84 (FtL.cons Tryz.func85 (by decide) Tryz.okS_85 (FtL.cons Tryz.func123 (by decide) Tryz.okS_123 (FtL.cons Tryz.func127 (by decide) Tryz.okS_127 (FtL.cons Tryz.func133 (by decide) Tryz.okS_133 (FtL.cons Tryz.func134 (by decide) Tryz.okS_134 (FtL.cons Tryz.func135 (by decide) Tryz.okS_135 (FtL.cons Tryz.func136 (by decide) Tryz.okS_136 (FtL.cons Tryz.func137 (by decide) Tryz.okS_137 (FtL.cons Tryz.func138 (by decide) Tryz.okS_138 (FtL.cons Tryz.func139 (by decide) Tryz.okS_139 (FtL.cons Tryz.func140 (by decide) Tryz.okS_140 (FtL.cons Tryz.func141 (by decide) Tryz.okS_141 (FtL.cons Tryz.func142 (by decide) Tryz.okS_142 (FtL.cons Tryz.func143 (by decide) Tryz.okS_143 (FtL.cons Tryz.func144 (by decide) Tryz.okS_144 (FtL.cons Tryz.func145 (by decide) Tryz.okS_145 (FtL.cons Tryz.func146 (by decide) Tryz.okS_146 (FtL.cons Tryz.func147 (by decide) Tryz.okS_147 (FtL.cons Tryz.func148 (by decide) Tryz.okS_148 (FtL.cons Tryz.func149 (by decide) Tryz.okS_149 (FtL.cons Tryz.func150 (by decide) Tryz.okS_150 (FtL.cons Tryz.func151 (by decide) Tryz.okS_151 (FtL.cons Tryz.func152 (by decide) Tryz.okS_152 (FtL.cons Tryz.func153 (by decide) Tryz.okS_153 (FtL.cons Tryz.func154 (by decide) Tryz.okS_154 (FtL.cons Tryz.func155 (by decide) Tryz.okS_155 (FtL.cons Tryz.func156 (by decide) Tryz.okS_156 (FtL.cons Tryz.func157 (by decide) Tryz.okS_157 (FtL.cons Tryz.func158 (by decide) Tryz.okS_158 (FtL.cons Tryz.func159 (by decide) Tryz.okS_159 (FtL.cons Tryz.func160 (by decide) Tryz.okS_160 (FtL.cons Tryz.func161 (by decide) Tryz.okS_161 (FtL.cons Tryz.func166 (by decide) Tryz.okS_166 (FtL.cons Tryz.func167 (by decide) Tryz.okS_167 (FtL.cons Tryz.func173 (by decide) Tryz.okS_173 (FtL.cons Tryz.func174 (by decide) Tryz.okS_174 (FtL.cons Tryz.func227 (by decide) Tryz.okS_227 (FtL.cons Tryz.func228 (by decide) Tryz.okS_228 (FtL.cons Tryz.func229 (by decide) Tryz.okS_229 (FtL.cons Tryz.func230 (by decide) Tryz.okS_230 (FtL.cons Tryz.func231 (by decide) Tryz.okS_231 (FtL.cons Tryz.func232 (by decide) Tryz.okS_232 (FtL.cons Tryz.func233 (by decide) Tryz.okS_233 (FtL.cons Tryz.func234 (by decide) Tryz.okS_234 (FtL.cons Tryz.func235 (by decide) Tryz.okS_235 (FtL.cons Tryz.func236 (by decide) Tryz.okS_236 (FtL.cons Tryz.func237 (by decide) Tryz.okS_237 (FtL.cons Tryz.func238 (by decide) Tryz.okS_238 (FtL.cons Tryz.func239 (by decide) Tryz.okS_239 (FtL.cons Tryz.func240 (by decide) Tryz.okS_240 (FtL.cons Tryz.func241 (by decide) Tryz.okS_241 (FtL.cons Tryz.func242 (by decide) Tryz.okS_242 (FtL.cons Tryz.func243 (by decide) Tryz.okS_243 (FtL.cons Tryz.func244 (by decide) Tryz.okS_244 (FtL.cons Tryz.func245 (by decide) Tryz.okS_245 (FtL.cons Tryz.func246 (by decide) Tryz.okS_246 (FtL.cons Tryz.func250 (by decide) Tryz.okS_250 (FtL.cons Tryz.func251 (by decide) Tryz.okS_251 (FtL.cons Tryz.func252 (by decide) Tryz.okS_252 (FtL.cons Tryz.func253 (by decide) Tryz.okS_253 (FtL.cons Tryz.func262 (by decide) Tryz.okS_262 (FtL.cons Tryz.func266 (by decide) Tryz.okS_266 (FtL.cons Tryz.func290 (by decide) Tryz.okS_290 (FtL.cons Tryz.func291 (by decide) Tryz.okS_291 (FtL.cons Tryz.func292 (by decide) Tryz.okS_292 (FtL.cons Tryz.func293 (by decide) Tryz.okS_293 (FtL.cons Tryz.func294 (by decide) Tryz.okS_294 (FtL.cons Tryz.func295 (by decide) Tryz.okS_295 (FtL.cons Tryz.func296 (by decide) Tryz.okS_296 (FtL.cons Tryz.func297 (by decide) Tryz.okS_297 (FtL.cons Tryz.func298 (by decide) Tryz.okS_298 (FtL.cons Tryz.func299 (by decide) Tryz.okS_299 (FtL.cons Tryz.func301 (by decide) Tryz.okS_301 (FtL.cons Tryz.func317 (by decide) Tryz.okS_317 (FtL.cons Tryz.func321 (by decide) Tryz.okS_321 (FtL.cons Tryz.func322 (by decide) Tryz.okS_322 (FtL.cons Tryz.func323 (by decide) Tryz.okS_323 FtL.nil)))))))))))))))))))))))))))))))))))))))))))))))))))))))))))))))))))))))))))))))))))))))))))))))))))))))))
noncomputable def Tryz.frLS : List (Nat × Func) := [(162, Tryz.f162)]
theorem Tryz.okrS_162 : bodyOkR Tryz.f162 (Tryz.ptS 162) = true := body_of_MR (mt := Tryz.mqS 162) (by kernel_rfl)
theorem Tryz.frOkS : FtOkR Tryz.prog (getL Tryz.frLS) Tryz.ptS := FtLR.ok (.cons Tryz.func162 (by decide) Tryz.okrS_162 .nil)
end Go.Proofs
end
section
/- Known calls of one closed run, each reckoned by itself; by program (genknow.py). -/


namespace Go.Proofs
open Go.Tm
set_option maxRecDepth 100000

def Tryz.eS0 : Ent := ⟨162, [.agg [.ref 104 1 0 3 none, .ref 105 1 0 3 none], .imm 0 [] 0],
 [(105, .arr 3 1 true [.int .i64 0, .int .i64 1, .int .i64 2]),
  (104, .arr 3 1 true [.int .i64 0, .int .i64 1, .int .i64 2])], 110,
 { d := .tuple [.ref 115 1 0 3 none, .int .i64 0], vc := true, eff := [(115, some (.arr 3 1 true [.int .i64 0, .int .i64 1, .int .i64 2]))], nw := (110, 116), met := [105, 104] }⟩
theorem Tryz.rS0 : runFR (getL Tryz.frLS) Tryz.ptS Tryz.tm 2000 (callN (callKQ [] noCall) (getLQ Tryz.ftLS) Tryz.ptS Tryz.tm 2000 60) Tryz.eS0.K Tryz.eS0.args Tryz.eS0.heap Tryz.eS0.nx = some Tryz.eS0.out := by kernel_rfl
theorem Tryz.kS0 : EntOk Tryz.prog Tryz.eS0 := entOk_of_runNR Tryz.tmOk Tryz.tmMixed Tryz.ftOkS Tryz.frOkS (l := []) .nil Tryz.rS0

def Tryz.eS1 : Ent := ⟨61, [.agg [.int .i64 0, .int .i64 0, .ref 47 1 0 3 none, .ref 48 1 0 3 none, .imm 0 [] 0, .imm 0 [] 0, .int .u8 0, .int .i64 0, .imm 0 [] 0, .str [], .str [], .imm 0 [] 0, .imm 0 [] 0, .ref 72 1 0 1 none, .int .i64 0]],
 [(72, .arr 9 1 true [.str [3, 2, 0, 1]]),
  (48, .arr 3 1 true [.int .i64 0, .int .i64 1, .int .i64 2]),
  (47, .arr 3 1 true [.int .i64 0, .int .i64 1, .int .i64 2])], 73,
 { d := .tuple [.agg [.int .i64 0, .int .i64 0, .ref 104 1 0 3 none, .ref 105 1 0 3 none, .imm 0 [] 0, .ref 133 5 0 1 none, .int .u8 1, .int .i64 8, .ref 151 1 0 3 none, .str [3, 2, 0, 1], .str [], .ref 153 3 0 1 none, .imm 0 [] 0, .ref 106 1 0 1 none, .int .i64 0], .ref 135 5 0 1 none, .ref 142 10 0 4 none, .int .i64 0], vc := true, eff := [(142, some (.arr 44 10 true [.agg [.int .i64 0, .int .i64 1, .int .u8 7, .int .i64 0, .int .i64 1, .int .i64 0, .int .i64 0, .str [], .int .i64 0, .int .i64 0], .agg [.int .i64 0, .int .i64 2, .int .u8 7, .int .i64 0, .int .i64 1, .int .i64 0, .int .i64 0, .str [], .int .i64 0, .int .i64 0], .agg [.int .i64 0, .int .i64 1, .int .u8 1, .int .i64 0, .int .i64 1, .int .i64 8, .int .i64 0, .str [], .int .i64 0, .int .i64 0], .agg [.int .i64 0, .int .i64 2, .int .u8 1, .int .i64 0, .int .i64 1, .int .i64 8, .int .i64 0, .str [], .int .i64 0, .int .i64 0]])),
  (135, some (.arr 48 5 true [.agg [.int .u8 1, .int .i64 0, .int .i64 1, .int .i64 8, .str []]])),
  (106, some (.arr 9 1 true [.str [3, 2, 0, 1]])),
  (153, some (.arr 162 3 true [.agg [.int .i64 0, .int .i64 0, .str []]])),
  (151, some (.arr 3 1 true [.int .i64 0, .int .i64 1, .int .i64 2])),
  (133, some (.arr 94 5 true [.agg [.int .i64 0, .int .i64 1, .int .i64 8, .int .i64 0, .str []]])),
  (105, some (.arr 3 1 true [.int .i64 0, .int .i64 1, .int .i64 2])),
  (104, some (.arr 3 1 true [.int .i64 0, .int .i64 1, .int .i64 2]))], nw := (73, 158), met := [72, 48, 47] }⟩
theorem Tryz.rS1 : runFQ (getLQ Tryz.ftLS) Tryz.ptS Tryz.tm 2000 (callN (callKQ [Tryz.eS0] noCall) (getLQ Tryz.ftLS) Tryz.ptS Tryz.tm 2000 60) Tryz.eS1.K Tryz.eS1.args Tryz.eS1.heap Tryz.eS1.nx = some Tryz.eS1.out := by kernel_rfl
theorem Tryz.kS1 : EntOk Tryz.prog Tryz.eS1 := entOk_of_runN Tryz.tmOk Tryz.tmMixed Tryz.ftOkS (l := [Tryz.eS0]) (.cons Tryz.kS0 .nil) Tryz.rS1

def Tryz.eS2 : Ent := ⟨162, [.agg [.ref 263 1 0 3 none, .ref 264 1 0 3 none], .imm 0 [] 0],
 [(264, .arr 3 1 true [.int .i64 0, .int .i64 1, .int .i64 2]),
  (263, .arr 3 1 true [.int .i64 0, .int .i64 1, .int .i64 2])], 269,
 { d := .tuple [.ref 274 1 0 3 none, .int .i64 0], vc := true, eff := [(274, some (.arr 3 1 true [.int .i64 0, .int .i64 1, .int .i64 2]))], nw := (269, 275), met := [264, 263] }⟩
theorem Tryz.rS2 : runFR (getL Tryz.frLS) Tryz.ptS Tryz.tm 2000 (callN (callKQ [] noCall) (getLQ Tryz.ftLS) Tryz.ptS Tryz.tm 2000 60) Tryz.eS2.K Tryz.eS2.args Tryz.eS2.heap Tryz.eS2.nx = some Tryz.eS2.out := by kernel_rfl
theorem Tryz.kS2 : EntOk Tryz.prog Tryz.eS2 := entOk_of_runNR Tryz.tmOk Tryz.tmMixed Tryz.ftOkS Tryz.frOkS (l := []) .nil Tryz.rS2

def Tryz.eS3 : Ent := ⟨61, [.agg [.int .i64 0, .int .i64 0, .ref 206 1 0 3 none, .ref 207 1 0 3 none, .imm 0 [] 0, .imm 0 [] 0, .int .u8 0, .int .i64 0, .imm 0 [] 0, .str [], .str [], .imm 0 [] 0, .imm 0 [] 0, .ref 231 1 0 1 none, .int .i64 0]],
 [(231, .arr 9 1 true [.str [3, 2, 0, 1]]),
  (207, .arr 3 1 true [.int .i64 0, .int .i64 1, .int .i64 2]),
  (206, .arr 3 1 true [.int .i64 0, .int .i64 1, .int .i64 2])], 232,
 { d := .tuple [.agg [.int .i64 0, .int .i64 0, .ref 263 1 0 3 none, .ref 264 1 0 3 none, .imm 0 [] 0, .ref 292 5 0 1 none, .int .u8 1, .int .i64 8, .ref 310 1 0 3 none, .str [3, 2, 0, 1], .str [], .ref 312 3 0 1 none, .imm 0 [] 0, .ref 265 1 0 1 none, .int .i64 0], .ref 294 5 0 1 none, .ref 301 10 0 4 none, .int .i64 0], vc := true, eff := [(301, some (.arr 44 10 true [.agg [.int .i64 0, .int .i64 1, .int .u8 7, .int .i64 0, .int .i64 1, .int .i64 0, .int .i64 0, .str [], .int .i64 0, .int .i64 0], .agg [.int .i64 0, .int .i64 2, .int .u8 7, .int .i64 0, .int .i64 1, .int .i64 0, .int .i64 0, .str [], .int .i64 0, .int .i64 0], .agg [.int .i64 0, .int .i64 1, .int .u8 1, .int .i64 0, .int .i64 1, .int .i64 8, .int .i64 0, .str [], .int .i64 0, .int .i64 0], .agg [.int .i64 0, .int .i64 2, .int .u8 1, .int .i64 0, .int .i64 1, .int .i64 8, .int .i64 0, .str [], .int .i64 0, .int .i64 0]])),
  (294, some (.arr 48 5 true [.agg [.int .u8 1, .int .i64 0, .int .i64 1, .int .i64 8, .str []]])),
  (265, some (.arr 9 1 true [.str [3, 2, 0, 1]])),
  (312, some (.arr 162 3 true [.agg [.int .i64 0, .int .i64 0, .str []]])),
  (310, some (.arr 3 1 true [.int .i64 0, .int .i64 1, .int .i64 2])),
  (292, some (.arr 94 5 true [.agg [.int .i64 0, .int .i64 1, .int .i64 8, .int .i64 0, .str []]])),
  (264, some (.arr 3 1 true [.int .i64 0, .int .i64 1, .int .i64 2])),
  (263, some (.arr 3 1 true [.int .i64 0, .int .i64 1, .int .i64 2]))], nw := (232, 317), met := [231, 207, 206] }⟩
theorem Tryz.rS3 : runFQ (getLQ Tryz.ftLS) Tryz.ptS Tryz.tm 2000 (callN (callKQ [Tryz.eS2] noCall) (getLQ Tryz.ftLS) Tryz.ptS Tryz.tm 2000 60) Tryz.eS3.K Tryz.eS3.args Tryz.eS3.heap Tryz.eS3.nx = some Tryz.eS3.out := by kernel_rfl
theorem Tryz.kS3 : EntOk Tryz.prog Tryz.eS3 := entOk_of_runN Tryz.tmOk Tryz.tmMixed Tryz.ftOkS (l := [Tryz.eS2]) (.cons Tryz.kS2 .nil) Tryz.rS3

def Tryz.eS4 : Ent := ⟨162, [.agg [.ref 263 1 0 3 none, .ref 264 1 0 3 none], .imm 0 [] 0],
 [(264, .arr 3 1 true [.int .i64 0, .int .i64 1, .int .i64 2]),
  (263, .arr 3 1 true [.int .i64 0, .int .i64 1, .int .i64 2])], 400,
 { d := .tuple [.ref 405 1 0 3 none, .int .i64 0], vc := true, eff := [(405, some (.arr 3 1 true [.int .i64 0, .int .i64 1, .int .i64 2]))], nw := (400, 406), met := [264, 263] }⟩
theorem Tryz.rS4 : runFR (getL Tryz.frLS) Tryz.ptS Tryz.tm 2000 (callN (callKQ [] noCall) (getLQ Tryz.ftLS) Tryz.ptS Tryz.tm 2000 60) Tryz.eS4.K Tryz.eS4.args Tryz.eS4.heap Tryz.eS4.nx = some Tryz.eS4.out := by kernel_rfl
theorem Tryz.kS4 : EntOk Tryz.prog Tryz.eS4 := entOk_of_runNR Tryz.tmOk Tryz.tmMixed Tryz.ftOkS Tryz.frOkS (l := []) .nil Tryz.rS4

def Tryz.eS5 : Ent := ⟨66, [.ptr 462 0, .agg [.int .i64 1, .int .i64 0, .int .u8 2, .int .i64 0, .int .i64 1, .int .i64 8, .int .i64 0, .str [], .int .i64 0, .int .i64 0]],
 [(457, .arr 9 1 true [.str [3, 2, 0, 1]]),
  (461, .arr 162 3 true [.agg [.int .i64 0, .int .i64 0, .str []]]),
  (460, .arr 3 1 true [.int .i64 0, .int .i64 1, .int .i64 2]),
  (456, .arr 94 5 true [.agg [.int .i64 0, .int .i64 1, .int .i64 8, .int .i64 0, .str []]]),
  (455, .arr 3 1 true [.int .i64 0, .int .i64 1, .int .i64 2]),
  (454, .arr 3 1 true [.int .i64 0, .int .i64 1, .int .i64 2]),
  (462, .box [.int .i64 0, .int .i64 0, .ref 454 1 0 3 none, .ref 455 1 0 3 none, .imm 0 [] 0, .ref 456 5 0 1 none, .int .u8 1, .int .i64 8, .ref 460 1 0 3 none, .str [3, 2, 0, 1], .str [], .ref 461 3 0 1 none, .imm 0 [] 0, .ref 457 1 0 1 none, .int .i64 0, .imm 0 [] 0, .imm 0 [] 0])], 463,
 { d := .tuple [], vc := true, eff := [(462, some (.box [.int .i64 0, .int .i64 0, .ref 454 1 0 3 none, .ref 455 1 0 3 none, .imm 0 [] 0, .ref 456 5 0 1 none, .int .u8 2, .int .i64 8, .ref 538 1 0 3 none, .str [3, 2, 0, 1], .str [3, 2, 0, 1], .ref 539 3 0 2 none, .ref 543 1 0 1 none, .ref 457 1 0 1 none, .int .i64 0, .ref 514 5 0 1 none, .ref 497 10 0 2 none])),
  (456, some (.arr 94 5 true [.agg [.int .i64 0, .int .i64 1, .int .i64 8, .int .i64 8, .str [3, 2, 0, 1]]])),
  (497, some (.arr 44 10 true [.agg [.int .i64 0, .int .i64 1, .int .u8 3, .int .i64 0, .int .i64 1, .int .i64 8, .int .i64 0, .str [3, 2, 0, 1], .int .i64 0, .int .i64 0], .agg [.int .i64 0, .int .i64 2, .int .u8 3, .int .i64 0, .int .i64 1, .int .i64 8, .int .i64 0, .str [3, 2, 0, 1], .int .i64 0, .int .i64 0]])),
  (514, some (.arr 48 5 true [.agg [.int .u8 2, .int .i64 0, .int .i64 1, .int .i64 8, .str [3, 2, 0, 1]]])),
  (543, some (.arr 3 1 true [.int .i64 0])),
  (539, some (.arr 162 3 true [.agg [.int .i64 0, .int .i64 0, .str []], .agg [.int .i64 1, .int .i64 0, .str []]])),
  (538, some (.arr 3 1 true [.int .i64 0, .int .i64 1, .int .i64 2]))], nw := (463, 545), met := [457, 461, 460, 456, 455, 454, 462] }⟩
theorem Tryz.rS5 : runFQ (getLQ Tryz.ftLS) Tryz.ptS Tryz.tm 2000 (callN (callKQ [] noCall) (getLQ Tryz.ftLS) Tryz.ptS Tryz.tm 2000 60) Tryz.eS5.K Tryz.eS5.args Tryz.eS5.heap Tryz.eS5.nx = some Tryz.eS5.out := by kernel_rfl
theorem Tryz.kS5 : EntOk Tryz.prog Tryz.eS5 := entOk_of_runN Tryz.tmOk Tryz.tmMixed Tryz.ftOkS (l := []) .nil Tryz.rS5

def Tryz.eS6 : Ent := ⟨162, [.agg [.ref 454 1 0 3 none, .ref 455 1 0 3 none], .imm 0 [] 0],
 [(455, .arr 3 1 true [.int .i64 0, .int .i64 1, .int .i64 2]),
  (454, .arr 3 1 true [.int .i64 0, .int .i64 1, .int .i64 2])], 596,
 { d := .tuple [.ref 601 1 0 3 none, .int .i64 0], vc := true, eff := [(601, some (.arr 3 1 true [.int .i64 0, .int .i64 1, .int .i64 2]))], nw := (596, 602), met := [455, 454] }⟩
theorem Tryz.rS6 : runFR (getL Tryz.frLS) Tryz.ptS Tryz.tm 2000 (callN (callKQ [] noCall) (getLQ Tryz.ftLS) Tryz.ptS Tryz.tm 2000 60) Tryz.eS6.K Tryz.eS6.args Tryz.eS6.heap Tryz.eS6.nx = some Tryz.eS6.out := by kernel_rfl
theorem Tryz.kS6 : EntOk Tryz.prog Tryz.eS6 := entOk_of_runNR Tryz.tmOk Tryz.tmMixed Tryz.ftOkS Tryz.frOkS (l := []) .nil Tryz.rS6

def Tryz.eS7 : Ent := ⟨69, [.agg [.int .u8 2, .int .i64 8, .ref 538 1 0 3 none, .str [3, 2, 0, 1], .str [3, 2, 0, 1], .ref 539 3 0 2 none, .ref 543 1 0 1 none]],
 [(543, .arr 3 1 true [.int .i64 0]),
  (539, .arr 162 3 true [.agg [.int .i64 0, .int .i64 0, .str []], .agg [.int .i64 1, .int .i64 0, .str []]]),
  (538, .arr 3 1 true [.int .i64 0, .int .i64 1, .int .i64 2])], 551,
 { d := .int .i64 0, vc := true, eff := [], nw := (551, 570), met := [543, 539, 538] }⟩
theorem Tryz.rS7 : runFQ (getLQ Tryz.ftLS) Tryz.ptS Tryz.tm 2000 (callN (callKQ [] noCall) (getLQ Tryz.ftLS) Tryz.ptS Tryz.tm 2000 60) Tryz.eS7.K Tryz.eS7.args Tryz.eS7.heap Tryz.eS7.nx = some Tryz.eS7.out := by kernel_rfl
theorem Tryz.kS7 : EntOk Tryz.prog Tryz.eS7 := entOk_of_runN Tryz.tmOk Tryz.tmMixed Tryz.ftOkS (l := []) .nil Tryz.rS7

def Tryz.eS8 : Ent := ⟨16, [.agg [.int .i64 0, .int .i64 0, .ref 454 1 0 3 none, .ref 455 1 0 3 none, .imm 0 [] 0, .ref 456 5 0 1 none, .int .u8 2, .int .i64 8, .ref 538 1 0 3 none, .str [3, 2, 0, 1], .str [3, 2, 0, 1], .ref 539 3 0 2 none, .ref 543 1 0 1 none, .ref 457 1 0 1 none, .int .i64 0]],
 [(457, .arr 9 1 true [.str [3, 2, 0, 1]]),
  (543, .arr 3 1 true [.int .i64 0]),
  (539, .arr 162 3 true [.agg [.int .i64 0, .int .i64 0, .str []], .agg [.int .i64 1, .int .i64 0, .str []]]),
  (538, .arr 3 1 true [.int .i64 0, .int .i64 1, .int .i64 2]),
  (456, .arr 94 5 true [.agg [.int .i64 0, .int .i64 1, .int .i64 8, .int .i64 8, .str [3, 2, 0, 1]]]),
  (455, .arr 3 1 true [.int .i64 0, .int .i64 1, .int .i64 2]),
  (454, .arr 3 1 true [.int .i64 0, .int .i64 1, .int .i64 2])], 548,
 { d := .int .i64 0, vc := true, eff := [], nw := (548, 643), met := [457, 543, 539, 538, 456, 455, 454] }⟩
theorem Tryz.rS8 : runFQ (getLQ Tryz.ftLS) Tryz.ptS Tryz.tm 2000 (callN (callKQ [Tryz.eS7, Tryz.eS6] noCall) (getLQ Tryz.ftLS) Tryz.ptS Tryz.tm 2000 60) Tryz.eS8.K Tryz.eS8.args Tryz.eS8.heap Tryz.eS8.nx = some Tryz.eS8.out := by kernel_rfl
theorem Tryz.kS8 : EntOk Tryz.prog Tryz.eS8 := entOk_of_runN Tryz.tmOk Tryz.tmMixed Tryz.ftOkS (l := [Tryz.eS7, Tryz.eS6]) (.cons Tryz.kS7 (.cons Tryz.kS6 .nil)) Tryz.rS8

def Tryz.eS9 : Ent := ⟨162, [.agg [.ref 454 1 0 3 none, .ref 455 1 0 3 none], .imm 0 [] 0],
 [(455, .arr 3 1 true [.int .i64 0, .int .i64 1, .int .i64 2]),
  (454, .arr 3 1 true [.int .i64 0, .int .i64 1, .int .i64 2])], 802,
 { d := .tuple [.ref 807 1 0 3 none, .int .i64 0], vc := true, eff := [(807, some (.arr 3 1 true [.int .i64 0, .int .i64 1, .int .i64 2]))], nw := (802, 808), met := [455, 454] }⟩
theorem Tryz.rS9 : runFR (getL Tryz.frLS) Tryz.ptS Tryz.tm 2000 (callN (callKQ [] noCall) (getLQ Tryz.ftLS) Tryz.ptS Tryz.tm 2000 60) Tryz.eS9.K Tryz.eS9.args Tryz.eS9.heap Tryz.eS9.nx = some Tryz.eS9.out := by kernel_rfl
theorem Tryz.kS9 : EntOk Tryz.prog Tryz.eS9 := entOk_of_runNR Tryz.tmOk Tryz.tmMixed Tryz.ftOkS Tryz.frOkS (l := []) .nil Tryz.rS9

def Tryz.eS10 : Ent := ⟨69, [.agg [.int .u8 2, .int .i64 8, .ref 538 1 0 3 none, .str [3, 2, 0, 1], .str [3, 2, 0, 1], .ref 539 3 0 2 none, .ref 543 1 0 1 none]],
 [(543, .arr 3 1 true [.int .i64 0]),
  (539, .arr 162 3 true [.agg [.int .i64 0, .int .i64 0, .str []], .agg [.int .i64 1, .int .i64 0, .str []]]),
  (538, .arr 3 1 true [.int .i64 0, .int .i64 1, .int .i64 2])], 757,
 { d := .int .i64 0, vc := true, eff := [], nw := (757, 776), met := [543, 539, 538] }⟩
theorem Tryz.rS10 : runFQ (getLQ Tryz.ftLS) Tryz.ptS Tryz.tm 2000 (callN (callKQ [] noCall) (getLQ Tryz.ftLS) Tryz.ptS Tryz.tm 2000 60) Tryz.eS10.K Tryz.eS10.args Tryz.eS10.heap Tryz.eS10.nx = some Tryz.eS10.out := by kernel_rfl
theorem Tryz.kS10 : EntOk Tryz.prog Tryz.eS10 := entOk_of_runN Tryz.tmOk Tryz.tmMixed Tryz.ftOkS (l := []) .nil Tryz.rS10

def Tryz.eS11 : Ent := ⟨13, [.agg [.int .i64 0, .int .i64 0, .ref 263 1 0 3 none, .ref 264 1 0 3 none, .imm 0 [] 0, .ref 292 5 0 1 none, .int .u8 1, .int .i64 8, .ref 310 1 0 3 none, .str [3, 2, 0, 1], .str [], .ref 312 3 0 1 none, .imm 0 [] 0, .ref 265 1 0 1 none, .int .i64 0], .agg [.int .i64 1, .int .i64 0, .int .u8 2, .int .i64 0, .int .i64 1, .int .i64 8, .int .i64 0, .str [], .int .i64 0, .int .i64 0]],
 [(265, .arr 9 1 true [.str [3, 2, 0, 1]]),
  (312, .arr 162 3 true [.agg [.int .i64 0, .int .i64 0, .str []]]),
  (310, .arr 3 1 true [.int .i64 0, .int .i64 1, .int .i64 2]),
  (292, .arr 94 5 true [.agg [.int .i64 0, .int .i64 1, .int .i64 8, .int .i64 0, .str []]]),
  (264, .arr 3 1 true [.int .i64 0, .int .i64 1, .int .i64 2]),
  (263, .arr 3 1 true [.int .i64 0, .int .i64 1, .int .i64 2])], 378,
 { d := .tuple [.agg [.int .i64 0, .int .i64 0, .ref 454 1 0 3 none, .ref 455 1 0 3 none, .imm 0 [] 0, .ref 456 5 0 1 none, .int .u8 2, .int .i64 8, .ref 538 1 0 3 none, .str [3, 2, 0, 1], .str [3, 2, 0, 1], .ref 539 3 0 2 none, .ref 543 1 0 1 none, .ref 457 1 0 1 none, .int .i64 0], .ref 514 5 0 1 none, .ref 497 10 0 2 none, .int .i64 0], vc := true, eff := [(497, some (.arr 44 10 true [.agg [.int .i64 0, .int .i64 1, .int .u8 3, .int .i64 0, .int .i64 1, .int .i64 8, .int .i64 0, .str [3, 2, 0, 1], .int .i64 0, .int .i64 0], .agg [.int .i64 0, .int .i64 2, .int .u8 3, .int .i64 0, .int .i64 1, .int .i64 8, .int .i64 0, .str [3, 2, 0, 1], .int .i64 0, .int .i64 0]])),
  (514, some (.arr 48 5 true [.agg [.int .u8 2, .int .i64 0, .int .i64 1, .int .i64 8, .str [3, 2, 0, 1]]])),
  (457, some (.arr 9 1 true [.str [3, 2, 0, 1]])),
  (543, some (.arr 3 1 true [.int .i64 0])),
  (539, some (.arr 162 3 true [.agg [.int .i64 0, .int .i64 0, .str []], .agg [.int .i64 1, .int .i64 0, .str []]])),
  (538, some (.arr 3 1 true [.int .i64 0, .int .i64 1, .int .i64 2])),
  (456, some (.arr 94 5 true [.agg [.int .i64 0, .int .i64 1, .int .i64 8, .int .i64 8, .str [3, 2, 0, 1]]])),
  (455, some (.arr 3 1 true [.int .i64 0, .int .i64 1, .int .i64 2])),
  (454, some (.arr 3 1 true [.int .i64 0, .int .i64 1, .int .i64 2]))], nw := (378, 545), met := [265, 312, 310, 292, 264, 263] }⟩
theorem Tryz.rS11 : runFQ (getLQ Tryz.ftLS) Tryz.ptS Tryz.tm 2000 (callN (callKQ [Tryz.eS5, Tryz.eS4] noCall) (getLQ Tryz.ftLS) Tryz.ptS Tryz.tm 2000 60) Tryz.eS11.K Tryz.eS11.args Tryz.eS11.heap Tryz.eS11.nx = some Tryz.eS11.out := by kernel_rfl
theorem Tryz.kS11 : EntOk Tryz.prog Tryz.eS11 := entOk_of_runN Tryz.tmOk Tryz.tmMixed Tryz.ftOkS (l := [Tryz.eS5, Tryz.eS4]) (.cons Tryz.kS5 (.cons Tryz.kS4 .nil)) Tryz.rS11

def Tryz.eS12 : Ent := ⟨14, [.agg [.int .i64 0, .int .i64 0, .ref 454 1 0 3 none, .ref 455 1 0 3 none, .imm 0 [] 0, .ref 456 5 0 1 none, .int .u8 2, .int .i64 8, .ref 538 1 0 3 none, .str [3, 2, 0, 1], .str [3, 2, 0, 1], .ref 539 3 0 2 none, .ref 543 1 0 1 none, .ref 457 1 0 1 none, .int .i64 0], .str [119, 104, 97, 116]],
 [(457, .arr 9 1 true [.str [3, 2, 0, 1]]),
  (543, .arr 3 1 true [.int .i64 0]),
  (539, .arr 162 3 true [.agg [.int .i64 0, .int .i64 0, .str []], .agg [.int .i64 1, .int .i64 0, .str []]]),
  (538, .arr 3 1 true [.int .i64 0, .int .i64 1, .int .i64 2]),
  (456, .arr 94 5 true [.agg [.int .i64 0, .int .i64 1, .int .i64 8, .int .i64 8, .str [3, 2, 0, 1]]]),
  (455, .arr 3 1 true [.int .i64 0, .int .i64 1, .int .i64 2]),
  (454, .arr 3 1 true [.int .i64 0, .int .i64 1, .int .i64 2])], 752,
 { d := .tuple [.agg [.int .i64 0, .int .i64 0, .imm 0 [] 0, .imm 0 [] 0, .imm 0 [] 0, .imm 0 [] 0, .int .u8 0, .int .i64 0, .imm 0 [] 0, .str [], .str [], .imm 0 [] 0, .imm 0 [] 0, .imm 0 [] 0, .int .i64 0], .int .i64 8], vc := true, eff := [], nw := (752, 867), met := [457, 543, 539, 538, 456, 455, 454] }⟩
theorem Tryz.rS12 : runFQ (getLQ Tryz.ftLS) Tryz.ptS Tryz.tm 2000 (callN (callKQ [Tryz.eS10, Tryz.eS9] noCall) (getLQ Tryz.ftLS) Tryz.ptS Tryz.tm 2000 60) Tryz.eS12.K Tryz.eS12.args Tryz.eS12.heap Tryz.eS12.nx = some Tryz.eS12.out := by kernel_rfl
theorem Tryz.kS12 : EntOk Tryz.prog Tryz.eS12 := entOk_of_runN Tryz.tmOk Tryz.tmMixed Tryz.ftOkS (l := [Tryz.eS10, Tryz.eS9]) (.cons Tryz.kS10 (.cons Tryz.kS9 .nil)) Tryz.rS12

def Tryz.eS13 : Ent := ⟨9, [],
 [], 0,
 { d := .bool true, vc := true, eff := [], nw := (0, 159), met := [] }⟩
theorem Tryz.rS13 : runFQ (getLQ Tryz.ftLS) Tryz.ptS Tryz.tm 2000 (callN (callKQ [Tryz.eS1] noCall) (getLQ Tryz.ftLS) Tryz.ptS Tryz.tm 2000 60) Tryz.eS13.K Tryz.eS13.args Tryz.eS13.heap Tryz.eS13.nx = some Tryz.eS13.out := by kernel_rfl
theorem Tryz.kS13 : EntOk Tryz.prog Tryz.eS13 := entOk_of_runN Tryz.tmOk Tryz.tmMixed Tryz.ftOkS (l := [Tryz.eS1]) (.cons Tryz.kS1 .nil) Tryz.rS13

def Tryz.eS14 : Ent := ⟨13, [.agg [.int .i64 0, .int .i64 0, .ref 454 1 0 3 none, .ref 455 1 0 3 none, .imm 0 [] 0, .ref 456 5 0 1 none, .int .u8 2, .int .i64 8, .ref 538 1 0 3 none, .str [3, 2, 0, 1], .str [3, 2, 0, 1], .ref 539 3 0 2 none, .ref 543 1 0 1 none, .ref 457 1 0 1 none, .int .i64 0], .agg [.int .i64 1, .int .i64 0, .int .u8 4, .int .i64 0, .int .i64 1, .int .i64 8, .int .i64 0, .str [], .int .i64 0, .int .i64 0]],
 [(457, .arr 9 1 true [.str [3, 2, 0, 1]]),
  (543, .arr 3 1 true [.int .i64 0]),
  (539, .arr 162 3 true [.agg [.int .i64 0, .int .i64 0, .str []], .agg [.int .i64 1, .int .i64 0, .str []]]),
  (538, .arr 3 1 true [.int .i64 0, .int .i64 1, .int .i64 2]),
  (456, .arr 94 5 true [.agg [.int .i64 0, .int .i64 1, .int .i64 8, .int .i64 8, .str [3, 2, 0, 1]]]),
  (455, .arr 3 1 true [.int .i64 0, .int .i64 1, .int .i64 2]),
  (454, .arr 3 1 true [.int .i64 0, .int .i64 1, .int .i64 2])], 545,
 { d := .tuple [.agg [.int .i64 0, .int .i64 0, .ref 650 1 0 3 none, .ref 651 1 0 3 none, .ref 700 1 0 1 none, .ref 652 5 0 0 none, .int .u8 0, .int .i64 0, .imm 0 [] 0, .str [], .str [], .imm 0 [] 0, .imm 0 [] 0, .ref 653 1 0 0 none, .int .i64 0], .ref 694 5 0 1 none, .ref 705 10 0 2 none, .int .i64 0], vc := true, eff := [(705, some (.arr 44 10 true [.agg [.int .i64 0, .int .i64 1, .int .u8 6, .int .i64 0, .int .i64 1, .int .i64 0, .int .i64 0, .str [3, 2, 0, 1], .int .i64 0, .int .i64 0], .agg [.int .i64 0, .int .i64 2, .int .u8 6, .int .i64 0, .int .i64 1, .int .i64 0, .int .i64 0, .str [3, 2, 0, 1], .int .i64 0, .int .i64 0]])),
  (694, some (.arr 48 5 true [.agg [.int .u8 3, .int .i64 0, .int .i64 1, .int .i64 0, .str [3, 2, 0, 1]]])),
  (653, some (.arr 9 1 true [.str []])),
  (652, some (.arr 94 5 true [.agg [.int .i64 0, .int .i64 0, .int .i64 0, .int .i64 0, .str []]])),
  (700, some (.arr 9 1 true [.str [3, 2, 0, 1]])),
  (651, some (.arr 3 1 true [.int .i64 0, .int .i64 1, .int .i64 2])),
  (650, some (.arr 3 1 true [.int .i64 0, .int .i64 1, .int .i64 2]))], nw := (545, 706), met := [457, 543, 539, 538, 456, 455, 454] }⟩
theorem Tryz.rS14 : runFQ (getLQ Tryz.ftLS) Tryz.ptS Tryz.tm 2000 (callN (callKQ [Tryz.eS8] noCall) (getLQ Tryz.ftLS) Tryz.ptS Tryz.tm 2000 60) Tryz.eS14.K Tryz.eS14.args Tryz.eS14.heap Tryz.eS14.nx = some Tryz.eS14.out := by kernel_rfl
theorem Tryz.kS14 : EntOk Tryz.prog Tryz.eS14 := entOk_of_runN Tryz.tmOk Tryz.tmMixed Tryz.ftOkS (l := [Tryz.eS8]) (.cons Tryz.kS8 .nil) Tryz.rS14

def Tryz.eS15 : Ent := ⟨10, [],
 [], 159,
 { d := .tuple [.agg [.int .i64 0, .int .i64 0, .ref 263 1 0 3 none, .ref 264 1 0 3 none, .imm 0 [] 0, .ref 292 5 0 1 none, .int .u8 1, .int .i64 8, .ref 310 1 0 3 none, .str [3, 2, 0, 1], .str [], .ref 312 3 0 1 none, .imm 0 [] 0, .ref 265 1 0 1 none, .int .i64 0], .ref 294 5 0 1 none, .ref 301 10 0 4 none, .bool true], vc := true, eff := [(301, some (.arr 44 10 true [.agg [.int .i64 0, .int .i64 1, .int .u8 7, .int .i64 0, .int .i64 1, .int .i64 0, .int .i64 0, .str [], .int .i64 0, .int .i64 0], .agg [.int .i64 0, .int .i64 2, .int .u8 7, .int .i64 0, .int .i64 1, .int .i64 0, .int .i64 0, .str [], .int .i64 0, .int .i64 0], .agg [.int .i64 0, .int .i64 1, .int .u8 1, .int .i64 0, .int .i64 1, .int .i64 8, .int .i64 0, .str [], .int .i64 0, .int .i64 0], .agg [.int .i64 0, .int .i64 2, .int .u8 1, .int .i64 0, .int .i64 1, .int .i64 8, .int .i64 0, .str [], .int .i64 0, .int .i64 0]])),
  (294, some (.arr 48 5 true [.agg [.int .u8 1, .int .i64 0, .int .i64 1, .int .i64 8, .str []]])),
  (265, some (.arr 9 1 true [.str [3, 2, 0, 1]])),
  (312, some (.arr 162 3 true [.agg [.int .i64 0, .int .i64 0, .str []]])),
  (310, some (.arr 3 1 true [.int .i64 0, .int .i64 1, .int .i64 2])),
  (292, some (.arr 94 5 true [.agg [.int .i64 0, .int .i64 1, .int .i64 8, .int .i64 0, .str []]])),
  (264, some (.arr 3 1 true [.int .i64 0, .int .i64 1, .int .i64 2])),
  (263, some (.arr 3 1 true [.int .i64 0, .int .i64 1, .int .i64 2]))], nw := (159, 317), met := [] }⟩
theorem Tryz.rS15 : runFQ (getLQ Tryz.ftLS) Tryz.ptS Tryz.tm 2000 (callN (callKQ [Tryz.eS3] noCall) (getLQ Tryz.ftLS) Tryz.ptS Tryz.tm 2000 60) Tryz.eS15.K Tryz.eS15.args Tryz.eS15.heap Tryz.eS15.nx = some Tryz.eS15.out := by kernel_rfl
theorem Tryz.kS15 : EntOk Tryz.prog Tryz.eS15 := entOk_of_runN Tryz.tmOk Tryz.tmMixed Tryz.ftOkS (l := [Tryz.eS3]) (.cons Tryz.kS3 .nil) Tryz.rS15

def Tryz.eS16 : Ent := ⟨13, [.agg [.int .i64 0, .int .i64 0, .ref 650 1 0 3 none, .ref 651 1 0 3 none, .ref 700 1 0 1 none, .ref 652 5 0 0 none, .int .u8 0, .int .i64 0, .imm 0 [] 0, .str [], .str [], .imm 0 [] 0, .imm 0 [] 0, .ref 653 1 0 0 none, .int .i64 0], .agg [.int .i64 1, .int .i64 0, .int .u8 8, .int .i64 0, .int .i64 0, .int .i64 0, .int .i64 0, .str [], .int .i64 0, .int .i64 1]],
 [(653, .arr 9 1 true [.str []]),
  (652, .arr 94 5 true [.agg [.int .i64 0, .int .i64 0, .int .i64 0, .int .i64 0, .str []]]),
  (700, .arr 9 1 true [.str [3, 2, 0, 1]]),
  (651, .arr 3 1 true [.int .i64 0, .int .i64 1, .int .i64 2]),
  (650, .arr 3 1 true [.int .i64 0, .int .i64 1, .int .i64 2])], 714,
 { d := .tuple [.agg [.int .i64 0, .int .i64 0, .imm 0 [] 0, .imm 0 [] 0, .imm 0 [] 0, .imm 0 [] 0, .int .u8 0, .int .i64 0, .imm 0 [] 0, .str [], .str [], .imm 0 [] 0, .imm 0 [] 0, .imm 0 [] 0, .int .i64 0], .imm 0 [] 0, .imm 0 [] 0, .int .i64 6], vc := true, eff := [], nw := (714, 751), met := [653, 652, 700, 651, 650] }⟩
theorem Tryz.rS16 : runFQ (getLQ Tryz.ftLS) Tryz.ptS Tryz.tm 2000 (callN (callKQ [] noCall) (getLQ Tryz.ftLS) Tryz.ptS Tryz.tm 2000 60) Tryz.eS16.K Tryz.eS16.args Tryz.eS16.heap Tryz.eS16.nx = some Tryz.eS16.out := by kernel_rfl
theorem Tryz.kS16 : EntOk Tryz.prog Tryz.eS16 := entOk_of_runN Tryz.tmOk Tryz.tmMixed Tryz.ftOkS (l := []) .nil Tryz.rS16

theorem Tryz.rStop : saysTrue (runFQ (getLQ Tryz.ftLS) Tryz.ptS Tryz.tm 2000 (callN (callKQ [Tryz.eS11, Tryz.eS12, Tryz.eS13, Tryz.eS14, Tryz.eS15, Tryz.eS16] noCall) (getLQ Tryz.ftLS) Tryz.ptS Tryz.tm 2000 60) 3 [] [] 0) = true := by kernel_rfl
theorem Tryz.namesS : CallP Tryz.prog 3 [] (.bool true) := callP_knownN Tryz.tmOk Tryz.tmMixed Tryz.ftOkS (l := [Tryz.eS11, Tryz.eS12, Tryz.eS13, Tryz.eS14, Tryz.eS15, Tryz.eS16]) (.cons Tryz.kS11 (.cons Tryz.kS12 (.cons Tryz.kS13 (.cons Tryz.kS14 (.cons Tryz.kS15 (.cons Tryz.kS16 .nil)))))) Tryz.rStop

end Go.Proofs
end
