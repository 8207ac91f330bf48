/- The calls of the function, each with its answer, as data. -/
import Derived.Test.YtfmbgbicbpoolaaGreatAbsLit
namespace Go.Proofs.YtfmbgbicbpoolaaGreat
open Go.Abs Go.Abs.Lit

def o0 : AObj := r [i 1, i 0, i 2, i 2, i 6, j 0, i 5, i 0, i 0] 70 3
/-- peloton/choose.New: 320 operations. -/
def e0 : Ent := ⟨4, [x .u8 (2), g [s 0 0 3 3], g [i 0, i 0]], [o0], (u [g [x .u8 (0), i 0, i 0, ns, i 0, ns, ns, ns, ns, ns, ns, ns, ns, i 0, i 0, ns, i 0, ns, ns, ns, ns, ns, ns, ns, ns, ns, i 0, i 0, ns, i 0, ns, ns, ns, ns, ns, ns, ns, i 0, ns, i 0, i 0, ns, i 0, ns, ns, ns, ns, ns, ns, ns, ns], i 8]), []⟩
def o1 : AObj := r (List.replicate 200 (i 0)) 3 1
def o2 : AObj := r (List.replicate 200 f) 4 1
def o3 : AObj := r (n [199, 198, 197, 196, 195, 194, 193, 192, 191, 190, 189, 188, 187, 186, 185, 184, 183, 182, 181, 180, 179, 178, 177, 176, 175, 174, 173, 172, 171, 170, 169, 168, 167, 166, 165, 164, 163, 162, 161, 160, 159, 158, 157, 156, 155, 154, 153, 152, 151, 150, 149, 148, 147, 146, 145, 144, 143, 142, 141, 140, 139, 138, 137, 136, 135, 134, 133, 132, 131, 130, 129, 128, 127, 126, 125, 124, 123, 122, 121, 120, 119, 118, 117, 116, 115, 114, 113, 112, 111, 110, 109, 108, 107, 106, 105, 104, 103, 102, 101, 100, 99, 98, 97, 96, 95, 94, 93, 92, 91, 90, 89, 88, 87, 86, 85, 84, 83, 82, 81, 80, 79, 78, 77, 76, 75, 74, 73, 72, 71, 70, 69, 68, 67, 66, 65, 64, 63, 62, 61, 60, 59, 58, 57, 56, 55, 54, 53, 52, 51, 50, 49, 48, 47, 46, 45, 44, 43, 42, 41, 40, 39, 38, 37, 36, 35, 34, 33, 32, 31, 30, 29, 28, 27, 26, 25, 24, 23, 22, 21, 20, 19, 18, 17, 16, 15, 14, 13, 12, 11, 10, 9, 8, 7, 6, 5, 4, 3, 2, 1, 0]) 3 1
/-- peloton/slot.New: 2823 operations. -/
def e1 : Ent := ⟨146, [i 200], [], (u [g [s 0 0 200 200, s 1 0 200 200, s 2 0 200 200], i 0]), [o1, o2, o3]⟩
def o4 : AObj := r (List.replicate 200 (j 0)) 3 1
/-- peloton/clock.New: 547 operations. -/
def e2 : Ent := ⟨49, [g [s 0 0 3 3], g [i 1073741825, i 1]], [o0], (u [g [i 1073741825, i 1, q 1 0 3, i 0, ns, s 2 0 200 200, s 3 0 200 200, s 4 0 200 200, ns, s 5 0 200 200, ns], i 0]), [o0, o1, o2, o3, o4]⟩
/-- peloton/course.Ahead: 403 operations. -/
def e3 : Ent := ⟨113, [g [i 1, i 0, i 2], g [i 2, i 6, j 0], g [i 1073741825, i 1]], [], (u [t, i 0]), []⟩
/-- peloton/course.Ahead: 403 operations. -/
def e4 : Ent := ⟨113, [g [i 2, i 6, j 0], g [i 5, i 0, i 0], g [i 1073741825, i 1]], [], (u [f, i 0]), []⟩
/-- peloton/course.Ahead: 398 operations. -/
def e5 : Ent := ⟨113, [g [i 1, i 0, i 2], g [i 5, i 0, i 0], g [i 1073741825, i 1]], [], (u [t, i 0]), []⟩
/-- peloton/cartes.Of: 511 operations. -/
def e6 : Ent := ⟨124, [g [s 0 0 3 3], g [i 1073741825, i 1]], [o0], (u [g [i 0, q 1 0 3], i 0]), [r [i 1, j 0, i 2, i 2, j 0, j 0, i 5, i 1, j 0] 145 3]⟩
/-- slices.Index[[]bool,bool]: 2206 operations. -/
def e7 : Ent := ⟨233, [q 0 0 200, f], [r (List.replicate 200 t) 4 1], (j 0), []⟩
/-- peloton/slot.Check: 11066 operations. -/
def e8 : Ent := ⟨157, [g [s 0 0 200 200, s 1 0 200 200, s 2 0 200 200]], [o1, o2, o3], (i 0), []⟩
/-- peloton/agenda.Check: 3444 operations. -/
def e9 : Ent := ⟨109, [g [s 0 0 200 200, s 1 0 200 200, s 2 0 200 200, ns, s 3 0 200 200]], [o1, o2, o3, o4], (i 0), []⟩
/-- peloton/clock.Check: 383 operations. -/
def e10 : Ent := ⟨58, [g [i 1073741825, i 1, q 0 0 3, i 0, ns, s 1 0 200 200, s 2 0 200 200, s 3 0 200 200, ns, s 4 0 200 200, ns]], [o0, o1, o2, o3, o4], (i 0), []⟩
/-- peloton/field.Find: 448 operations. -/
def e11 : Ent := ⟨112, [g [s 0 0 3 3], i 2], [o0], (u [g [i 2, i 6, j 0], i 0]), []⟩
/-- peloton/field.Find: 448 operations. -/
def e12 : Ent := ⟨112, [g [s 0 0 3 3], i 5], [o0], (u [g [i 5, i 0, i 0], i 0]), []⟩
/-- peloton/field.Find: 450 operations. -/
def e13 : Ent := ⟨112, [g [s 0 0 3 3], i 1], [o0], (u [g [i 1, i 0, i 2], i 0]), []⟩
/-- peloton/slot.Check: 11066 operations. -/
def e14 : Ent := ⟨157, [g [q 0 0 200, q 1 0 200, q 2 0 200]], [o1, o2, o3], (i 0), []⟩
/-- peloton/agenda.Check: 3444 operations. -/
def e15 : Ent := ⟨109, [g [q 0 0 200, q 1 0 200, q 2 0 200, ns, q 3 0 200]], [o1, o2, o3, o4], (i 0), []⟩
/-- peloton/clock.Check: 383 operations. -/
def e16 : Ent := ⟨58, [g [i 1073741825, i 1, q 0 0 3, i 0, ns, q 1 0 200, q 2 0 200, q 3 0 200, ns, q 4 0 200, ns]], [o0, o1, o2, o3, o4], (i 0), []⟩
/-- peloton/course.Fails: 411 operations. -/
def e17 : Ent := ⟨159, [g [i 5, i 0, i 0], g [i 2, i 6, j 0], g [i 1073741825, i 1]], [], (u [g [i 0, i 0], f, i 0]), []⟩
/-- peloton/clock.Certify: 1051 operations. -/
def e18 : Ent := ⟨106, [g [i 1073741825, i 1, q 0 0 3, i 0, ns, q 1 0 200, q 2 0 200, q 3 0 200, ns, q 4 0 200, ns], g [i 2, i 5]], [o0, o1, o2, o3, o4], (u [g [i 1073741825, i 1, q 5 0 3, i 1, q 6 0 1, q 7 0 200, q 8 0 200, q 9 0 200, ns, q 10 0 200, ns], i 0, i 0]), [o0, r [i 0, i 2, i 5] 127 3, o1, o2, o3, o4]⟩
/-- peloton/clock.Check: 858 operations. -/
def e19 : Ent := ⟨58, [g [i 1073741825, i 1, q 0 0 3, i 1, q 1 0 1, q 2 0 200, q 3 0 200, q 4 0 200, ns, q 5 0 200, ns]], [o0, r [i 0, i 2, i 5] 127 3, o1, o2, o3, o4], (i 0), []⟩
/-- peloton/course.Fails: 411 operations. -/
def e20 : Ent := ⟨159, [g [i 1, i 0, i 2], g [i 5, i 0, i 0], g [i 1073741825, i 1]], [], (u [g [i 0, i 0], f, i 0]), []⟩
def o5 : AObj := r (n [0, 2, 5, 1, 5, 1]) 127 3
/-- peloton/clock.Certify: 1140 operations. -/
def e21 : Ent := ⟨106, [g [i 1073741825, i 1, q 0 0 3, i 1, q 1 0 1, q 2 0 200, q 3 0 200, q 4 0 200, ns, q 5 0 200, ns], g [i 5, i 1]], [o0, r [i 0, i 2, i 5] 127 3, o1, o2, o3, o4], (u [g [i 1073741825, i 1, q 6 0 3, i 2, q 7 0 2, q 8 0 200, q 9 0 200, q 10 0 200, ns, q 11 0 200, ns], i 1, i 0]), [o0, o5, o1, o2, o3, o4]⟩
/-- peloton/kheap.Renew: 753 operations. -/
def e22 : Ent := ⟨107, [g [i 1073741825, i 1, q 0 0 3, i 0, ns, s 1 0 200 200, s 2 0 200 200, s 3 0 200 200, ns, s 4 0 200 200, ns], g [s 5 0 3 3], q 6 0 2], [o0, o1, o2, o3, o4, o0, r [i 2, i 5, i 5, i 1] 125 2], (u [g [i 1073741825, i 1, q 7 0 3, i 2, q 8 0 2, q 9 0 200, q 10 0 200, q 11 0 200, ns, q 12 0 200, ns], i 0]), [o0, o5, o1, o2, o3, o4]⟩
/-- peloton/choose.New: 405 operations. -/
def e23 : Ent := ⟨4, [x .u8 (3), g [s 0 0 3 3], g [i 1073741825, i 1]], [o0], (u [g [x .u8 (0), i 0, i 0, ns, i 0, ns, ns, ns, ns, ns, ns, ns, ns, i 0, i 0, ns, i 0, ns, ns, ns, ns, ns, ns, ns, ns, ns, i 0, i 0, ns, i 0, ns, ns, ns, ns, ns, ns, ns, i 0, ns, i 0, i 0, ns, i 0, ns, ns, ns, ns, ns, ns, ns, ns], i 2]), []⟩
/-- peloton/clock.New: 539 operations. -/
def e24 : Ent := ⟨49, [g [s 0 0 3 3], g [i 1, i 1025]], [o0], (u [g [i 1, i 1025, q 1 0 3, i 0, ns, s 2 0 200 200, s 3 0 200 200, s 4 0 200 200, ns, s 5 0 200 200, ns], i 0]), [o0, o1, o2, o3, o4]⟩
/-- peloton/course.Ahead: 395 operations. -/
def e25 : Ent := ⟨113, [g [i 2, i 6, j 0], g [i 1, i 0, i 2], g [i 1, i 1025]], [], (u [t, i 0]), []⟩
/-- peloton/course.Ahead: 395 operations. -/
def e26 : Ent := ⟨113, [g [i 5, i 0, i 0], g [i 2, i 6, j 0], g [i 1, i 1025]], [], (u [f, i 0]), []⟩
/-- peloton/course.Ahead: 395 operations. -/
def e27 : Ent := ⟨113, [g [i 5, i 0, i 0], g [i 1, i 0, i 2], g [i 1, i 1025]], [], (u [f, i 0]), []⟩
/-- peloton/clock.Check: 375 operations. -/
def e28 : Ent := ⟨58, [g [i 1, i 1025, q 0 0 3, i 0, ns, s 1 0 200 200, s 2 0 200 200, s 3 0 200 200, ns, s 4 0 200 200, ns]], [o0, o1, o2, o3, o4], (i 0), []⟩
/-- peloton/clock.Check: 375 operations. -/
def e29 : Ent := ⟨58, [g [i 1, i 1025, q 0 0 3, i 0, ns, q 1 0 200, q 2 0 200, q 3 0 200, ns, q 4 0 200, ns]], [o0, o1, o2, o3, o4], (i 0), []⟩
/-- peloton/course.Fails: 676 operations. -/
def e30 : Ent := ⟨159, [g [i 2, i 6, j 0], g [i 1, i 0, i 2], g [i 1, i 1025]], [], (u [g [i 2, i 1], t, i 0]), []⟩
def o6 : AObj := r (n [1] ++ List.replicate 199 (i 0)) 3 1
def o7 : AObj := r ([t] ++ List.replicate 199 f) 4 1
def o8 : AObj := r (n [199, 198, 197, 196, 195, 194, 193, 192, 191, 190, 189, 188, 187, 186, 185, 184, 183, 182, 181, 180, 179, 178, 177, 176, 175, 174, 173, 172, 171, 170, 169, 168, 167, 166, 165, 164, 163, 162, 161, 160, 159, 158, 157, 156, 155, 154, 153, 152, 151, 150, 149, 148, 147, 146, 145, 144, 143, 142, 141, 140, 139, 138, 137, 136, 135, 134, 133, 132, 131, 130, 129, 128, 127, 126, 125, 124, 123, 122, 121, 120, 119, 118, 117, 116, 115, 114, 113, 112, 111, 110, 109, 108, 107, 106, 105, 104, 103, 102, 101, 100, 99, 98, 97, 96, 95, 94, 93, 92, 91, 90, 89, 88, 87, 86, 85, 84, 83, 82, 81, 80, 79, 78, 77, 76, 75, 74, 73, 72, 71, 70, 69, 68, 67, 66, 65, 64, 63, 62, 61, 60, 59, 58, 57, 56, 55, 54, 53, 52, 51, 50, 49, 48, 47, 46, 45, 44, 43, 42, 41, 40, 39, 38, 37, 36, 35, 34, 33, 32, 31, 30, 29, 28, 27, 26, 25, 24, 23, 22, 21, 20, 19, 18, 17, 16, 15, 14, 13, 12, 11, 10, 9, 8, 7, 6, 5, 4, 3, 2, 1]) 3 1
def o9 : AObj := r [i 2, i 1, i 0, i 0, i 1] 158 5
def o10 : AObj := r ([i 0] ++ List.replicate 199 (j 0)) 3 1
/-- peloton/clock.Certify: 1380 operations. -/
def e31 : Ent := ⟨106, [g [i 1, i 1025, q 0 0 3, i 0, ns, q 1 0 200, q 2 0 200, q 3 0 200, ns, q 4 0 200, ns], g [i 1, i 2]], [o0, o1, o2, o3, o4], (u [g [i 1, i 1025, q 5 0 3, i 1, q 6 0 1, q 7 0 200, q 8 0 200, q 9 0 199, q 10 0 1, q 11 0 200, q 12 0 1], i 0, i 0]), [o0, r [i 0, i 1, i 2] 127 3, o6, o7, o8, o9, o10, r [i 0, i 0, i 1] 188 3]⟩
/-- peloton/slot.Check: 11031 operations. -/
def e32 : Ent := ⟨157, [g [q 0 0 200, q 1 0 200, q 2 0 199]], [o6, o7, o8], (i 0), []⟩
/-- peloton/agenda.Check: 3553 operations. -/
def e33 : Ent := ⟨109, [g [q 0 0 200, q 1 0 200, q 2 0 199, q 3 0 1, q 4 0 200]], [o6, o7, o8, o9, o10], (i 0), []⟩
/-- peloton/clock.Check: 911 operations. -/
def e34 : Ent := ⟨58, [g [i 1, i 1025, q 0 0 3, i 1, q 1 0 1, q 2 0 200, q 3 0 200, q 4 0 199, q 5 0 1, q 6 0 200, q 7 0 1]], [o0, r [i 0, i 1, i 2] 127 3, o6, o7, o8, o9, o10, r [i 0, i 0, i 1] 188 3], (i 0), []⟩
/-- peloton/course.Fails: 403 operations. -/
def e35 : Ent := ⟨159, [g [i 1, i 0, i 2], g [i 5, i 0, i 0], g [i 1, i 1025]], [], (u [g [i 0, i 0], f, i 0]), []⟩
def o11 : AObj := r (n [0, 1, 2, 1, 5, 1]) 127 3
/-- peloton/clock.Certify: 1146 operations. -/
def e36 : Ent := ⟨106, [g [i 1, i 1025, q 0 0 3, i 1, q 1 0 1, q 2 0 200, q 3 0 200, q 4 0 199, q 5 0 1, q 6 0 200, q 7 0 1], g [i 5, i 1]], [o0, r [i 0, i 1, i 2] 127 3, o6, o7, o8, o9, o10, r [i 0, i 0, i 1] 188 3], (u [g [i 1, i 1025, q 8 0 3, i 2, q 9 0 2, q 10 0 200, q 11 0 200, q 12 0 199, q 13 0 1, q 14 0 200, q 15 0 1], i 1, i 0]), [o0, o11, o6, o7, o8, o9, o10, r [i 0, i 0, i 1] 188 3]⟩
def o12 : AObj := r [i 1, i 2, i 5, i 1] 125 2
/-- peloton/kheap.Renew: 753 operations. -/
def e37 : Ent := ⟨107, [g [i 1, i 1025, q 0 0 3, i 0, ns, s 1 0 200 200, s 2 0 200 200, s 3 0 200 200, ns, s 4 0 200 200, ns], g [s 5 0 3 3], q 6 0 2], [o0, o1, o2, o3, o4, o0, o12], (u [g [i 1, i 1025, q 7 0 3, i 2, q 8 0 2, q 9 0 200, q 10 0 200, q 11 0 199, q 12 0 1, q 13 0 200, q 14 0 1], i 0]), [o0, o11, o6, o7, o8, o9, o10, r [i 0, i 0, i 1] 188 3]⟩
/-- peloton/hanger.Build: 468 operations. -/
def e38 : Ent := ⟨18, [g [s 0 0 3 3], g [i 1, i 1025]], [o0], (u [g [i 1, i 1025, q 1 0 3, i 2, q 2 0 2, q 3 0 200, q 4 0 200, q 5 0 199, q 6 0 1, q 7 0 200, q 8 0 1, q 9 0 3], i 0]), [o0, o11, o6, o7, o8, o9, o10, r [i 0, i 0, i 1] 188 3, r [i 2, j 0, i 1] 3 1]⟩
/-- peloton/choose.Check: 359 operations. -/
def e39 : Ent := ⟨6, [g [x .u8 (0), i 0, i 0, ns, i 0, ns, ns, ns, ns, ns, ns, ns, ns, i 0, i 0, ns, i 0, ns, ns, ns, ns, ns, ns, ns, ns, ns, i 0, i 0, ns, i 0, ns, ns, ns, ns, ns, ns, ns, i 0, ns, i 0, i 0, ns, i 0, ns, ns, ns, ns, ns, ns, ns, ns]], [], (i 8), []⟩
/-- peloton/clock.New: 547 operations. -/
def e40 : Ent := ⟨49, [g [s 0 0 3 3], g [i 5, i 1]], [o0], (u [g [i 5, i 1, q 1 0 3, i 0, ns, s 2 0 200 200, s 3 0 200 200, s 4 0 200 200, ns, s 5 0 200 200, ns], i 0]), [o0, o1, o2, o3, o4]⟩
/-- peloton/course.Ahead: 403 operations. -/
def e41 : Ent := ⟨113, [g [i 2, i 6, j 0], g [i 1, i 0, i 2], g [i 5, i 1]], [], (u [f, i 0]), []⟩
/-- peloton/course.Ahead: 403 operations. -/
def e42 : Ent := ⟨113, [g [i 5, i 0, i 0], g [i 1, i 0, i 2], g [i 5, i 1]], [], (u [f, i 0]), []⟩
/-- peloton/clock.Check: 383 operations. -/
def e43 : Ent := ⟨58, [g [i 5, i 1, q 0 0 3, i 0, ns, s 1 0 200 200, s 2 0 200 200, s 3 0 200 200, ns, s 4 0 200 200, ns]], [o0, o1, o2, o3, o4], (i 0), []⟩
/-- peloton/course.Fails: 411 operations. -/
def e44 : Ent := ⟨159, [g [i 1, i 0, i 2], g [i 2, i 6, j 0], g [i 5, i 1]], [], (u [g [i 0, i 0], f, i 0]), []⟩
/-- peloton/clock.Certify: 1055 operations. -/
def e45 : Ent := ⟨106, [g [i 5, i 1, q 0 0 3, i 0, ns, s 1 0 200 200, s 2 0 200 200, s 3 0 200 200, ns, s 4 0 200 200, ns], g [i 2, i 1]], [o0, o1, o2, o3, o4], (u [g [i 5, i 1, q 5 0 3, i 1, q 6 0 1, q 7 0 200, q 8 0 200, q 9 0 200, ns, q 10 0 200, ns], i 0, i 0]), [o0, r [i 0, i 2, i 1] 127 3, o1, o2, o3, o4]⟩
/-- peloton/clock.Check: 860 operations. -/
def e46 : Ent := ⟨58, [g [i 5, i 1, q 0 0 3, i 1, q 1 0 1, q 2 0 200, q 3 0 200, q 4 0 200, ns, q 5 0 200, ns]], [o0, r [i 0, i 2, i 1] 127 3, o1, o2, o3, o4], (i 0), []⟩
/-- peloton/course.Fails: 411 operations. -/
def e47 : Ent := ⟨159, [g [i 1, i 0, i 2], g [i 5, i 0, i 0], g [i 5, i 1]], [], (u [g [i 0, i 0], f, i 0]), []⟩
def o13 : AObj := r (n [0, 2, 1, 1, 5, 1]) 127 3
/-- peloton/clock.Certify: 1140 operations. -/
def e48 : Ent := ⟨106, [g [i 5, i 1, q 0 0 3, i 1, q 1 0 1, q 2 0 200, q 3 0 200, q 4 0 200, ns, q 5 0 200, ns], g [i 5, i 1]], [o0, r [i 0, i 2, i 1] 127 3, o1, o2, o3, o4], (u [g [i 5, i 1, q 6 0 3, i 2, q 7 0 2, q 8 0 200, q 9 0 200, q 10 0 200, ns, q 11 0 200, ns], i 1, i 0]), [o0, o13, o1, o2, o3, o4]⟩
/-- peloton/kheap.Build: 433 operations. -/
def e49 : Ent := ⟨15, [g [s 0 0 3 3], g [i 5, i 1]], [o0], (u [g [i 5, i 1, q 1 0 3, i 2, q 2 0 2, q 3 0 200, q 4 0 200, q 5 0 200, ns, q 6 0 200, ns, q 7 0 3], i 0]), [o0, o13, o1, o2, o3, o4, r [i 1, i 2, i 5] 3 1]⟩
/-- peloton/course.Ahead: 403 operations. -/
def e50 : Ent := ⟨113, [g [i 1, i 0, i 2], g [i 2, i 6, j 0], g [i 5, i 1]], [], (u [t, i 0]), []⟩
/-- peloton/course.Ahead: 398 operations. -/
def e51 : Ent := ⟨113, [g [i 1, i 0, i 2], g [i 5, i 0, i 0], g [i 5, i 1]], [], (u [t, i 0]), []⟩
def o14 : AObj := r [i 1, i 2, i 5, j 0] 3 1
/-- peloton/bracket.Build: 2314 operations. -/
def e52 : Ent := ⟨121, [g [s 0 0 3 3], g [i 5, i 1], s 1 0 4 4], [o0, o14], (u [g [q 2 0 4, s 3 0 3 3], i 0]), [o14, r [i 1, i 1, i 5] 3 1]⟩
/-- peloton/clock.Check: 383 operations. -/
def e53 : Ent := ⟨58, [g [i 5, i 1, q 0 0 3, i 0, ns, q 1 0 200, q 2 0 200, q 3 0 200, ns, q 4 0 200, ns]], [o0, o1, o2, o3, o4], (i 0), []⟩
/-- peloton/clock.Certify: 1055 operations. -/
def e54 : Ent := ⟨106, [g [i 5, i 1, q 0 0 3, i 0, ns, q 1 0 200, q 2 0 200, q 3 0 200, ns, q 4 0 200, ns], g [i 5, i 1]], [o0, o1, o2, o3, o4], (u [g [i 5, i 1, q 5 0 3, i 1, q 6 0 1, q 7 0 200, q 8 0 200, q 9 0 200, ns, q 10 0 200, ns], i 0, i 0]), [o0, r [i 0, i 5, i 1] 127 3, o1, o2, o3, o4]⟩
/-- peloton/clock.Check: 860 operations. -/
def e55 : Ent := ⟨58, [g [i 5, i 1, q 0 0 3, i 1, q 1 0 1, q 2 0 200, q 3 0 200, q 4 0 200, ns, q 5 0 200, ns]], [o0, r [i 0, i 5, i 1] 127 3, o1, o2, o3, o4], (i 0), []⟩
def o15 : AObj := r (n [0, 5, 1, 1, 2, 1]) 127 3
/-- peloton/clock.Certify: 1140 operations. -/
def e56 : Ent := ⟨106, [g [i 5, i 1, q 0 0 3, i 1, q 1 0 1, q 2 0 200, q 3 0 200, q 4 0 200, ns, q 5 0 200, ns], g [i 2, i 1]], [o0, r [i 0, i 5, i 1] 127 3, o1, o2, o3, o4], (u [g [i 5, i 1, q 6 0 3, i 2, q 7 0 2, q 8 0 200, q 9 0 200, q 10 0 200, ns, q 11 0 200, ns], i 1, i 0]), [o0, o15, o1, o2, o3, o4]⟩
def o16 : AObj := r [i 5, i 1, i 2, i 1] 125 2
/-- peloton/kheap.Renew: 753 operations. -/
def e57 : Ent := ⟨107, [g [i 5, i 1, q 0 0 3, i 0, ns, s 1 0 200 200, s 2 0 200 200, s 3 0 200 200, ns, s 4 0 200 200, ns], g [s 5 0 3 3], q 6 0 2], [o0, o1, o2, o3, o4, o0, o16], (u [g [i 5, i 1, q 7 0 3, i 2, q 8 0 2, q 9 0 200, q 10 0 200, q 11 0 200, ns, q 12 0 200, ns], i 0]), [o0, o15, o1, o2, o3, o4]⟩
/-- peloton/ktourn.Build: 476 operations. -/
def e58 : Ent := ⟨16, [g [s 0 0 3 3], g [i 5, i 1]], [o0], (u [g [i 5, i 1, q 1 0 3, i 2, q 2 0 2, q 3 0 200, q 4 0 200, q 5 0 200, ns, q 6 0 200, ns, q 7 0 4, s 8 0 3 3], i 0]), [o0, o15, o1, o2, o3, o4, o14, r [i 1, i 1, i 5] 3 1]⟩
/-- peloton/clock.Check: 1337 operations. -/
def e59 : Ent := ⟨58, [g [i 5, i 1, q 0 0 3, i 2, q 1 0 2, q 2 0 200, q 3 0 200, q 4 0 200, ns, q 5 0 200, ns]], [o0, o13, o1, o2, o3, o4], (i 0), []⟩
/-- peloton/field.Find: 450 operations. -/
def e60 : Ent := ⟨112, [g [q 0 0 3], i 1], [o0], (u [g [i 1, i 0, i 2], i 0]), []⟩
/-- peloton/field.Find: 448 operations. -/
def e61 : Ent := ⟨112, [g [q 0 0 3], i 2], [o0], (u [g [i 2, i 6, j 0], i 0]), []⟩
/-- peloton/field.Find: 448 operations. -/
def e62 : Ent := ⟨112, [g [q 0 0 3], i 5], [o0], (u [g [i 5, i 0, i 0], i 0]), []⟩
/-- peloton/kheap.Check: 409 operations. -/
def e63 : Ent := ⟨22, [g [i 5, i 1, q 0 0 3, i 2, q 1 0 2, q 2 0 200, q 3 0 200, q 4 0 200, ns, q 5 0 200, ns, q 6 0 3]], [o0, o13, o1, o2, o3, o4, r [i 1, i 2, i 5] 3 1], (i 0), []⟩
/-- peloton/choose.Check: 406 operations. -/
def e64 : Ent := ⟨6, [g [x .u8 (1), i 5, i 1, q 0 0 3, i 2, q 1 0 2, q 2 0 200, q 3 0 200, q 4 0 200, ns, q 5 0 200, ns, q 6 0 3, i 0, i 0, ns, i 0, ns, ns, ns, ns, ns, ns, ns, ns, ns, i 0, i 0, ns, i 0, ns, ns, ns, ns, ns, ns, ns, i 0, ns, i 0, i 0, ns, i 0, ns, ns, ns, ns, ns, ns, ns, ns]], [o0, o13, o1, o2, o3, o4, r [i 1, i 2, i 5] 3 1], (i 0), []⟩
/-- peloton/ratio.Cmp: 370 operations. -/
def e65 : Ent := ⟨79, [g [i 4, i 1], g [i 5, i 1]], [], (u [j 0, i 0]), []⟩
/-- peloton/field.Put: 474 operations. -/
def e66 : Ent := ⟨83, [g [q 0 0 3], g [i 2, i 0, i 0]], [o0], (u [g [ns], i 14]), []⟩
/-- peloton/field.Take: 444 operations. -/
def e67 : Ent := ⟨92, [g [q 0 0 3], i 3], [o0], (u [g [ns], i 6]), []⟩
/-- peloton/field.Change: 728 operations. -/
def e68 : Ent := ⟨96, [g [q 0 0 3], g [i 3, i 0, i 0]], [o0], (u [g [ns], i 6]), []⟩
/-- peloton/clock.New: 313 operations. -/
def e69 : Ent := ⟨49, [g [ns], g [i 0, i 1]], [], (u [g [i 0, i 1, ns, i 0, ns, s 0 0 200 200, s 1 0 200 200, s 2 0 200 200, ns, s 3 0 200 200, ns], i 0]), [o1, o2, o3, o4]⟩
/-- peloton/choose.Check: 595 operations. -/
def e70 : Ent := ⟨6, [g [x .u8 (1), i 0, i 1, ns, i 0, ns, s 0 0 200 200, s 1 0 200 200, s 2 0 200 200, ns, s 3 0 200 200, ns, ns, i 0, i 0, ns, i 0, ns, ns, ns, ns, ns, ns, ns, ns, ns, i 0, i 0, ns, i 0, ns, ns, ns, ns, ns, ns, ns, i 0, ns, i 0, i 0, ns, i 0, ns, ns, ns, ns, ns, ns, ns, ns]], [o1, o2, o3, o4], (i 0), []⟩
/-- peloton/course.Ahead: 403 operations. -/
def e71 : Ent := ⟨113, [g [i 2, i 6, j 0], g [i 5, i 0, i 0], g [i 5, i 1]], [], (u [t, i 0]), []⟩
def o17 : AObj := r [i 1, j 0, i 1, i 2, j 0, i 2, i 5, j 0, j 0] 145 3
/-- peloton/cartes.Of: 478 operations. -/
def e72 : Ent := ⟨124, [g [s 0 0 3 3], g [i 5, i 1]], [o0], (u [g [i 0, q 1 0 3], i 0]), [o17]⟩
/-- peloton/clock.Certify: 1055 operations. -/
def e73 : Ent := ⟨106, [g [i 5, i 1, q 0 0 3, i 0, ns, q 1 0 200, q 2 0 200, q 3 0 200, ns, q 4 0 200, ns], g [i 2, i 1]], [o0, o1, o2, o3, o4], (u [g [i 5, i 1, q 5 0 3, i 1, q 6 0 1, q 7 0 200, q 8 0 200, q 9 0 200, ns, q 10 0 200, ns], i 0, i 0]), [o0, r [i 0, i 2, i 1] 127 3, o1, o2, o3, o4]⟩
/-- peloton/course.Fails: 684 operations. -/
def e74 : Ent := ⟨159, [g [i 2, i 6, j 0], g [i 5, i 0, i 0], g [i 5, i 1]], [], (u [g [i 6, i 1], t, i 0]), []⟩
def o18 : AObj := r (n [0, 2, 1, 1, 5, 2]) 127 3
def o19 : AObj := r [i 6, i 1, i 1, i 0, i 1] 158 5
/-- peloton/clock.Certify: 1461 operations. -/
def e75 : Ent := ⟨106, [g [i 5, i 1, q 0 0 3, i 1, q 1 0 1, q 2 0 200, q 3 0 200, q 4 0 200, ns, q 5 0 200, ns], g [i 5, i 2]], [o0, r [i 0, i 2, i 1] 127 3, o1, o2, o3, o4], (u [g [i 5, i 1, q 6 0 3, i 2, q 7 0 2, q 8 0 200, q 9 0 200, q 10 0 199, q 11 0 1, q 12 0 200, q 13 0 1], i 1, i 0]), [o0, o18, o6, o7, o8, o19, o10, r [i 1, i 0, i 1] 188 3]⟩
def o20 : AObj := r [i 2, i 1, i 5, i 2] 125 2
/-- peloton/kheap.Renew: 753 operations. -/
def e76 : Ent := ⟨107, [g [i 5, i 1, q 0 0 3, i 0, ns, s 1 0 200 200, s 2 0 200 200, s 3 0 200 200, ns, s 4 0 200 200, ns], g [s 5 0 3 3], q 6 0 2], [o0, o1, o2, o3, o4, o0, o20], (u [g [i 5, i 1, q 7 0 3, i 2, q 8 0 2, q 9 0 200, q 10 0 200, q 11 0 199, q 12 0 1, q 13 0 200, q 14 0 1], i 0]), [o0, o18, o6, o7, o8, o19, o10, r [i 1, i 0, i 1] 188 3]⟩
/-- peloton/choose.New: 407 operations. -/
def e77 : Ent := ⟨4, [x .u8 (3), g [s 0 0 3 3], g [i 5, i 1]], [o0], (u [g [x .u8 (3), i 0, i 0, ns, i 0, ns, ns, ns, ns, ns, ns, ns, ns, i 0, i 0, ns, i 0, ns, ns, ns, ns, ns, ns, ns, ns, ns, i 5, i 1, q 1 0 3, i 2, q 2 0 2, q 3 0 200, q 4 0 200, q 5 0 199, q 6 0 1, q 7 0 200, q 8 0 1, i 0, q 9 0 3, i 0, i 0, ns, i 0, ns, ns, ns, ns, ns, ns, ns, ns], i 0]), [o0, o18, o6, o7, o8, o19, o10, r [i 1, i 0, i 1] 188 3, o17]⟩
/-- peloton/clock.Check: 1337 operations. -/
def e78 : Ent := ⟨58, [g [i 5, i 1, q 0 0 3, i 2, q 1 0 2, q 2 0 200, q 3 0 200, q 4 0 200, ns, q 5 0 200, ns]], [o0, o15, o1, o2, o3, o4], (i 0), []⟩
/-- peloton/bracket.Check: 493 operations. -/
def e79 : Ent := ⟨62, [g [q 0 0 4, s 1 0 3 3]], [o14, r [i 1, i 1, i 5] 3 1], (i 0), []⟩
/-- peloton/bracket.Build: 2314 operations. -/
def e80 : Ent := ⟨121, [g [q 0 0 3], g [i 5, i 1], q 1 0 4], [o0, o14], (u [g [q 2 0 4, s 3 0 3 3], i 0]), [o14, r [i 1, i 1, i 5] 3 1]⟩
/-- peloton/ktourn.Check: 772 operations. -/
def e81 : Ent := ⟨23, [g [i 5, i 1, q 0 0 3, i 2, q 1 0 2, q 2 0 200, q 3 0 200, q 4 0 200, ns, q 5 0 200, ns, q 6 0 4, s 7 0 3 3]], [o0, o15, o1, o2, o3, o4, o14, r [i 1, i 1, i 5] 3 1], (i 0), []⟩
/-- peloton/choose.Check: 403 operations. -/
def e82 : Ent := ⟨6, [g [x .u8 (2), i 0, i 0, ns, i 0, ns, ns, ns, ns, ns, ns, ns, ns, i 5, i 1, q 0 0 3, i 2, q 1 0 2, q 2 0 200, q 3 0 200, q 4 0 200, ns, q 5 0 200, ns, q 6 0 4, s 7 0 3 3, i 0, i 0, ns, i 0, ns, ns, ns, ns, ns, ns, ns, i 0, ns, i 0, i 0, ns, i 0, ns, ns, ns, ns, ns, ns, ns, ns]], [o0, o15, o1, o2, o3, o4, o14, r [i 1, i 1, i 5] 3 1], (i 0), []⟩
/-- peloton/kheap.Renew: 360 operations. -/
def e83 : Ent := ⟨107, [g [i 0, i 1, ns, i 0, ns, s 0 0 200 200, s 1 0 200 200, s 2 0 200 200, ns, s 3 0 200 200, ns], g [ns], ns], [o1, o2, o3, o4], (u [g [i 0, i 1, ns, i 0, ns, q 4 0 200, q 5 0 200, q 6 0 200, ns, q 7 0 200, ns], i 0]), [o1, o2, o3, o4]⟩
/-- peloton/ktourn.Build: 462 operations. -/
def e84 : Ent := ⟨16, [g [ns], g [i 0, i 1]], [], (u [g [i 0, i 1, ns, i 0, ns, q 0 0 200, q 1 0 200, q 2 0 200, ns, q 3 0 200, ns, q 4 0 1, s 5 0 0 0], i 0]), [o1, o2, o3, o4, r [j 0] 3 1, r [] 3 1]⟩
/-- peloton/ktourn.Check: 800 operations. -/
def e85 : Ent := ⟨23, [g [i 0, i 1, ns, i 0, ns, q 0 0 200, q 1 0 200, q 2 0 200, ns, q 3 0 200, ns, q 4 0 1, s 5 0 0 0]], [o1, o2, o3, o4, r [j 0] 3 1, r [] 3 1], (i 0), []⟩
/-- peloton/choose.Check: 387 operations. -/
def e86 : Ent := ⟨6, [g [x .u8 (2), i 0, i 0, ns, i 0, ns, ns, ns, ns, ns, ns, ns, ns, i 0, i 1, ns, i 0, ns, q 0 0 200, q 1 0 200, q 2 0 200, ns, q 3 0 200, ns, q 4 0 1, s 5 0 0 0, i 0, i 0, ns, i 0, ns, ns, ns, ns, ns, ns, ns, i 0, ns, i 0, i 0, ns, i 0, ns, ns, ns, ns, ns, ns, ns, ns]], [o1, o2, o3, o4, r [j 0] 3 1, r [] 3 1], (i 0), []⟩
def o21 : AObj := r [i 2, i 1, i 5, i 1] 125 2
/-- peloton/kheap.Renew: 753 operations. -/
def e87 : Ent := ⟨107, [g [i 5, i 1, q 0 0 3, i 0, ns, s 1 0 200 200, s 2 0 200 200, s 3 0 200 200, ns, s 4 0 200 200, ns], g [s 5 0 3 3], q 6 0 2], [o0, o1, o2, o3, o4, o0, o21], (u [g [i 5, i 1, q 7 0 3, i 2, q 8 0 2, q 9 0 200, q 10 0 200, q 11 0 200, ns, q 12 0 200, ns], i 0]), [o0, o13, o1, o2, o3, o4]⟩
/-- peloton/hanger.Build: 422 operations. -/
def e88 : Ent := ⟨18, [g [s 0 0 3 3], g [i 5, i 1]], [o0], (u [g [i 5, i 1, q 1 0 3, i 2, q 2 0 2, q 3 0 200, q 4 0 200, q 5 0 200, ns, q 6 0 200, ns, q 7 0 3], i 0]), [o0, o13, o1, o2, o3, o4, r [j 0, i 1, i 1] 3 1]⟩
/-- peloton/choose.Put: 301 operations. -/
def e89 : Ent := ⟨11, [g [x .u8 (4), i 0, i 0, ns, i 0, ns, ns, ns, ns, ns, ns, ns, ns, i 0, i 0, ns, i 0, ns, ns, ns, ns, ns, ns, ns, ns, ns, i 5, i 1, q 0 0 3, i 2, q 1 0 2, q 2 0 200, q 3 0 200, q 4 0 199, q 5 0 1, q 6 0 200, q 7 0 1, i 0, q 8 0 3, i 0, i 0, ns, i 0, ns, ns, ns, ns, ns, ns, ns, ns], g [j 0, i 0, i 0]], [o0, o18, o6, o7, o8, o19, o10, r [i 1, i 0, i 1] 188 3, o17], (u [g [x .u8 (0), i 0, i 0, ns, i 0, ns, ns, ns, ns, ns, ns, ns, ns, i 0, i 0, ns, i 0, ns, ns, ns, ns, ns, ns, ns, ns, ns, i 0, i 0, ns, i 0, ns, ns, ns, ns, ns, ns, ns, i 0, ns, i 0, i 0, ns, i 0, ns, ns, ns, ns, ns, ns, ns, ns], i 8]), []⟩
/-- peloton/choose.Change: 301 operations. -/
def e90 : Ent := ⟨13, [g [x .u8 (4), i 0, i 0, ns, i 0, ns, ns, ns, ns, ns, ns, ns, ns, i 0, i 0, ns, i 0, ns, ns, ns, ns, ns, ns, ns, ns, ns, i 5, i 1, q 0 0 3, i 2, q 1 0 2, q 2 0 200, q 3 0 200, q 4 0 199, q 5 0 1, q 6 0 200, q 7 0 1, i 0, q 8 0 3, i 0, i 0, ns, i 0, ns, ns, ns, ns, ns, ns, ns, ns], g [j 0, i 0, i 0]], [o0, o18, o6, o7, o8, o19, o10, r [i 1, i 0, i 1] 188 3, o17], (u [g [x .u8 (0), i 0, i 0, ns, i 0, ns, ns, ns, ns, ns, ns, ns, ns, i 0, i 0, ns, i 0, ns, ns, ns, ns, ns, ns, ns, ns, ns, i 0, i 0, ns, i 0, ns, ns, ns, ns, ns, ns, ns, i 0, ns, i 0, i 0, ns, i 0, ns, ns, ns, ns, ns, ns, ns, ns], i 8]), []⟩
/-- peloton/agenda.Check: 3553 operations. -/
def e91 : Ent := ⟨109, [g [q 0 0 200, q 1 0 200, q 2 0 199, q 3 0 1, q 4 0 200]], [o6, o7, o8, o19, o10], (i 0), []⟩
/-- peloton/clock.Check: 1394 operations. -/
def e92 : Ent := ⟨58, [g [i 5, i 1, q 0 0 3, i 2, q 1 0 2, q 2 0 200, q 3 0 200, q 4 0 199, q 5 0 1, q 6 0 200, q 7 0 1]], [o0, o18, o6, o7, o8, o19, o10, r [i 1, i 0, i 1] 188 3], (i 0), []⟩
/-- peloton/cartes.Of: 478 operations. -/
def e93 : Ent := ⟨124, [g [q 0 0 3], g [i 5, i 1]], [o0], (u [g [i 0, q 1 0 3], i 0]), [o17]⟩
/-- peloton/heater.Check: 461 operations. -/
def e94 : Ent := ⟨24, [g [i 5, i 1, q 0 0 3, i 2, q 1 0 2, q 2 0 200, q 3 0 200, q 4 0 199, q 5 0 1, q 6 0 200, q 7 0 1, i 0, q 8 0 3]], [o0, o18, o6, o7, o8, o19, o10, r [i 1, i 0, i 1] 188 3, o17], (i 0), []⟩
/-- peloton/choose.Check: 408 operations. -/
def e95 : Ent := ⟨6, [g [x .u8 (3), i 0, i 0, ns, i 0, ns, ns, ns, ns, ns, ns, ns, ns, i 0, i 0, ns, i 0, ns, ns, ns, ns, ns, ns, ns, ns, ns, i 5, i 1, q 0 0 3, i 2, q 1 0 2, q 2 0 200, q 3 0 200, q 4 0 199, q 5 0 1, q 6 0 200, q 7 0 1, i 0, q 8 0 3, i 0, i 0, ns, i 0, ns, ns, ns, ns, ns, ns, ns, ns]], [o0, o18, o6, o7, o8, o19, o10, r [i 1, i 0, i 1] 188 3, o17], (i 0), []⟩
/-- peloton/heater.Check: 357 operations. -/
def e96 : Ent := ⟨24, [g [i 0, i 1, ns, i 0, ns, q 0 0 200, q 1 0 200, q 2 0 200, ns, q 3 0 200, ns, j 0, ns]], [o1, o2, o3, o4], (i 0), []⟩
/-- peloton/choose.Check: 392 operations. -/
def e97 : Ent := ⟨6, [g [x .u8 (3), i 0, i 0, ns, i 0, ns, ns, ns, ns, ns, ns, ns, ns, i 0, i 0, ns, i 0, ns, ns, ns, ns, ns, ns, ns, ns, ns, i 0, i 1, ns, i 0, ns, q 0 0 200, q 1 0 200, q 2 0 200, ns, q 3 0 200, ns, j 0, ns, i 0, i 0, ns, i 0, ns, ns, ns, ns, ns, ns, ns, ns]], [o1, o2, o3, o4], (i 0), []⟩
/-- peloton/choose.Check: 304 operations. -/
def e98 : Ent := ⟨6, [g [x .u8 (1), i 0, i 0, ns, i 0, ns, ns, ns, ns, ns, ns, ns, ns, i 0, i 0, ns, i 0, ns, ns, ns, ns, ns, ns, ns, ns, ns, i 0, i 0, ns, i 0, ns, ns, ns, ns, ns, ns, ns, i 0, ns, i 5, i 1, q 0 0 3, i 2, q 1 0 2, q 2 0 200, q 3 0 200, q 4 0 200, ns, q 5 0 200, ns, q 6 0 3]], [o0, o13, o1, o2, o3, o4, r [j 0, i 1, i 1] 3 1], (i 8), []⟩
/-- peloton/hanger.Check: 545 operations. -/
def e99 : Ent := ⟨25, [g [i 5, i 1, q 0 0 3, i 2, q 1 0 2, q 2 0 200, q 3 0 200, q 4 0 200, ns, q 5 0 200, ns, q 6 0 3]], [o0, o13, o1, o2, o3, o4, r [j 0, i 1, i 1] 3 1], (i 0), []⟩
/-- peloton/choose.Check: 416 operations. -/
def e100 : Ent := ⟨6, [g [x .u8 (4), i 0, i 0, ns, i 0, ns, ns, ns, ns, ns, ns, ns, ns, i 0, i 0, ns, i 0, ns, ns, ns, ns, ns, ns, ns, ns, ns, i 0, i 0, ns, i 0, ns, ns, ns, ns, ns, ns, ns, i 0, ns, i 5, i 1, q 0 0 3, i 2, q 1 0 2, q 2 0 200, q 3 0 200, q 4 0 200, ns, q 5 0 200, ns, q 6 0 3]], [o0, o13, o1, o2, o3, o4, r [j 0, i 1, i 1] 3 1], (i 0), []⟩
/-- peloton/choose.Check: 630 operations. -/
def e101 : Ent := ⟨6, [g [x .u8 (4), i 0, i 0, ns, i 0, ns, ns, ns, ns, ns, ns, ns, ns, i 0, i 0, ns, i 0, ns, ns, ns, ns, ns, ns, ns, ns, ns, i 0, i 0, ns, i 0, ns, ns, ns, ns, ns, ns, ns, i 0, ns, i 0, i 1, ns, i 0, ns, q 0 0 200, q 1 0 200, q 2 0 200, ns, q 3 0 200, ns, ns]], [o1, o2, o3, o4], (i 0), []⟩
/-- peloton/clock.New: 531 operations. -/
def e102 : Ent := ⟨49, [g [s 0 0 3 3], g [i 0, i 1]], [o0], (u [g [i 0, i 1, q 1 0 3, i 0, ns, s 2 0 200 200, s 3 0 200 200, s 4 0 200 200, ns, s 5 0 200 200, ns], i 0]), [o0, o1, o2, o3, o4]⟩
/-- peloton/course.Ahead: 387 operations. -/
def e103 : Ent := ⟨113, [g [i 2, i 6, j 0], g [i 1, i 0, i 2], g [i 0, i 1]], [], (u [t, i 0]), []⟩
/-- peloton/course.Ahead: 387 operations. -/
def e104 : Ent := ⟨113, [g [i 5, i 0, i 0], g [i 2, i 6, j 0], g [i 0, i 1]], [], (u [f, i 0]), []⟩
/-- peloton/clock.Check: 367 operations. -/
def e105 : Ent := ⟨58, [g [i 0, i 1, q 0 0 3, i 0, ns, s 1 0 200 200, s 2 0 200 200, s 3 0 200 200, ns, s 4 0 200 200, ns]], [o0, o1, o2, o3, o4], (i 0), []⟩
/-- peloton/course.Fails: 668 operations. -/
def e106 : Ent := ⟨159, [g [i 2, i 6, j 0], g [i 1, i 0, i 2], g [i 0, i 1]], [], (u [g [i 2, i 1], t, i 0]), []⟩
/-- peloton/clock.Certify: 1380 operations. -/
def e107 : Ent := ⟨106, [g [i 0, i 1, q 0 0 3, i 0, ns, s 1 0 200 200, s 2 0 200 200, s 3 0 200 200, ns, s 4 0 200 200, ns], g [i 1, i 2]], [o0, o1, o2, o3, o4], (u [g [i 0, i 1, q 5 0 3, i 1, q 6 0 1, q 7 0 200, q 8 0 200, q 9 0 199, q 10 0 1, q 11 0 200, q 12 0 1], i 0, i 0]), [o0, r [i 0, i 1, i 2] 127 3, o6, o7, o8, o9, o10, r [i 0, i 0, i 1] 188 3]⟩
/-- peloton/clock.Check: 903 operations. -/
def e108 : Ent := ⟨58, [g [i 0, i 1, q 0 0 3, i 1, q 1 0 1, q 2 0 200, q 3 0 200, q 4 0 199, q 5 0 1, q 6 0 200, q 7 0 1]], [o0, r [i 0, i 1, i 2] 127 3, o6, o7, o8, o9, o10, r [i 0, i 0, i 1] 188 3], (i 0), []⟩
/-- peloton/course.Fails: 668 operations. -/
def e109 : Ent := ⟨159, [g [i 2, i 6, j 0], g [i 5, i 0, i 0], g [i 0, i 1]], [], (u [g [i 6, i 1], t, i 0]), []⟩
/-- peloton/ratio.Cmp: 373 operations. -/
def e110 : Ent := ⟨79, [g [i 6, i 1], g [i 2, i 1]], [], (u [i 1, i 0]), []⟩
def o22 : AObj := r (n [1, 1] ++ List.replicate 198 (i 0)) 3 1
def o23 : AObj := r ([t, t] ++ List.replicate 198 f) 4 1
def o24 : AObj := r (n [199, 198, 197, 196, 195, 194, 193, 192, 191, 190, 189, 188, 187, 186, 185, 184, 183, 182, 181, 180, 179, 178, 177, 176, 175, 174, 173, 172, 171, 170, 169, 168, 167, 166, 165, 164, 163, 162, 161, 160, 159, 158, 157, 156, 155, 154, 153, 152, 151, 150, 149, 148, 147, 146, 145, 144, 143, 142, 141, 140, 139, 138, 137, 136, 135, 134, 133, 132, 131, 130, 129, 128, 127, 126, 125, 124, 123, 122, 121, 120, 119, 118, 117, 116, 115, 114, 113, 112, 111, 110, 109, 108, 107, 106, 105, 104, 103, 102, 101, 100, 99, 98, 97, 96, 95, 94, 93, 92, 91, 90, 89, 88, 87, 86, 85, 84, 83, 82, 81, 80, 79, 78, 77, 76, 75, 74, 73, 72, 71, 70, 69, 68, 67, 66, 65, 64, 63, 62, 61, 60, 59, 58, 57, 56, 55, 54, 53, 52, 51, 50, 49, 48, 47, 46, 45, 44, 43, 42, 41, 40, 39, 38, 37, 36, 35, 34, 33, 32, 31, 30, 29, 28, 27, 26, 25, 24, 23, 22, 21, 20, 19, 18, 17, 16, 15, 14, 13, 12, 11, 10, 9, 8, 7, 6, 5, 4, 3, 2]) 3 1
def o25 : AObj := r (n [2, 1, 0, 0, 1, 6, 1, 1, 1, 1]) 158 5
def o26 : AObj := r ([i 0, i 1] ++ List.replicate 198 (j 0)) 3 1
/-- peloton/agenda.Push: 390 operations. -/
def e111 : Ent := ⟨150, [g [q 0 0 200, q 1 0 200, q 2 0 199, q 3 0 1, q 4 0 200], g [i 6, i 1], i 1], [o6, o7, o8, o9, o10], (u [g [q 5 0 200, q 6 0 200, q 7 0 198, q 8 0 2, q 9 0 200], g [i 1, i 1], i 0]), [o22, o23, o24, o25, o26]⟩
def o27 : AObj := r (n [0, 1, 2, 1, 5, 2]) 127 3
def o28 : AObj := r (n [0, 0, 1, 1, 1, 1]) 188 3
/-- peloton/clock.Certify: 1170 operations. -/
def e112 : Ent := ⟨106, [g [i 0, i 1, q 0 0 3, i 1, q 1 0 1, q 2 0 200, q 3 0 200, q 4 0 199, q 5 0 1, q 6 0 200, q 7 0 1], g [i 5, i 2]], [o0, r [i 0, i 1, i 2] 127 3, o6, o7, o8, o9, o10, r [i 0, i 0, i 1] 188 3], (u [g [i 0, i 1, q 8 0 3, i 2, q 9 0 2, q 10 0 200, q 11 0 200, q 12 0 198, q 13 0 2, q 14 0 200, q 15 0 2], i 1, i 0]), [o0, o27, o22, o23, o24, o25, o26, o28]⟩
/-- peloton/kheap.Build: 461 operations. -/
def e113 : Ent := ⟨15, [g [s 0 0 3 3], g [i 0, i 1]], [o0], (u [g [i 0, i 1, q 1 0 3, i 2, q 2 0 2, q 3 0 200, q 4 0 200, q 5 0 198, q 6 0 2, q 7 0 200, q 8 0 2, q 9 0 3], i 0]), [o0, o27, o22, o23, o24, o25, o26, o28, r [i 2, i 1, i 5] 3 1]⟩
/-- peloton/slot.Check: 10996 operations. -/
def e114 : Ent := ⟨157, [g [q 0 0 200, q 1 0 200, q 2 0 198]], [o22, o23, o24], (i 0), []⟩
/-- peloton/agenda.Check: 3734 operations. -/
def e115 : Ent := ⟨109, [g [q 0 0 200, q 1 0 200, q 2 0 198, q 3 0 2, q 4 0 200]], [o22, o23, o24, o25, o26], (i 0), []⟩
/-- peloton/clock.Check: 1437 operations. -/
def e116 : Ent := ⟨58, [g [i 0, i 1, q 0 0 3, i 2, q 1 0 2, q 2 0 200, q 3 0 200, q 4 0 198, q 5 0 2, q 6 0 200, q 7 0 2]], [o0, o27, o22, o23, o24, o25, o26, o28], (i 0), []⟩
/-- peloton/course.Ahead: 387 operations. -/
def e117 : Ent := ⟨113, [g [i 2, i 6, j 0], g [i 5, i 0, i 0], g [i 0, i 1]], [], (u [t, i 0]), []⟩
/-- peloton/kheap.Check: 409 operations. -/
def e118 : Ent := ⟨22, [g [i 0, i 1, q 0 0 3, i 2, q 1 0 2, q 2 0 200, q 3 0 200, q 4 0 198, q 5 0 2, q 6 0 200, q 7 0 2, q 8 0 3]], [o0, o27, o22, o23, o24, o25, o26, o28, r [i 2, i 1, i 5] 3 1], (i 0), []⟩
/-- peloton/choose.Check: 390 operations. -/
def e119 : Ent := ⟨6, [g [x .u8 (1), i 0, i 1, q 0 0 3, i 2, q 1 0 2, q 2 0 200, q 3 0 200, q 4 0 198, q 5 0 2, q 6 0 200, q 7 0 2, q 8 0 3, i 0, i 0, ns, i 0, ns, ns, ns, ns, ns, ns, ns, ns, ns, i 0, i 0, ns, i 0, ns, ns, ns, ns, ns, ns, ns, i 0, ns, i 0, i 0, ns, i 0, ns, ns, ns, ns, ns, ns, ns, ns]], [o0, o27, o22, o23, o24, o25, o26, o28, r [i 2, i 1, i 5] 3 1], (i 0), []⟩
/-- peloton/ratio.Cmp: 357 operations. -/
def e120 : Ent := ⟨79, [g [i 2, i 1], g [i 0, i 1]], [], (u [i 1, i 0]), []⟩
/-- peloton/ratio.Cmp: 373 operations. -/
def e121 : Ent := ⟨79, [g [i 2, i 1], g [i 2, i 1]], [], (u [i 0, i 0]), []⟩
def o29 : AObj := r (n [1, 5, 2, 0, 0, 0]) 127 3
/-- peloton/cert.Remove: 404 operations. -/
def e122 : Ent := ⟨188, [g [i 2, q 0 0 2], i 0], [o27], (u [g [i 2, q 1 0 1], g [i 1, i 2], i 0]), [o29]⟩
def o30 : AObj := r ([f, t] ++ List.replicate 198 f) 4 1
def o31 : AObj := r (n [199, 198, 197, 196, 195, 194, 193, 192, 191, 190, 189, 188, 187, 186, 185, 184, 183, 182, 181, 180, 179, 178, 177, 176, 175, 174, 173, 172, 171, 170, 169, 168, 167, 166, 165, 164, 163, 162, 161, 160, 159, 158, 157, 156, 155, 154, 153, 152, 151, 150, 149, 148, 147, 146, 145, 144, 143, 142, 141, 140, 139, 138, 137, 136, 135, 134, 133, 132, 131, 130, 129, 128, 127, 126, 125, 124, 123, 122, 121, 120, 119, 118, 117, 116, 115, 114, 113, 112, 111, 110, 109, 108, 107, 106, 105, 104, 103, 102, 101, 100, 99, 98, 97, 96, 95, 94, 93, 92, 91, 90, 89, 88, 87, 86, 85, 84, 83, 82, 81, 80, 79, 78, 77, 76, 75, 74, 73, 72, 71, 70, 69, 68, 67, 66, 65, 64, 63, 62, 61, 60, 59, 58, 57, 56, 55, 54, 53, 52, 51, 50, 49, 48, 47, 46, 45, 44, 43, 42, 41, 40, 39, 38, 37, 36, 35, 34, 33, 32, 31, 30, 29, 28, 27, 26, 25, 24, 23, 22, 21, 20, 19, 18, 17, 16, 15, 14, 13, 12, 11, 10, 9, 8, 7, 6, 5, 4, 3, 2, 0]) 3 1
def o32 : AObj := r (n [6, 1, 1, 1, 1, 6, 1, 1, 1, 1]) 158 5
def o33 : AObj := r ([j 0, i 0] ++ List.replicate 198 (j 0)) 3 1
/-- peloton/agenda.Remove: 345 operations. -/
def e123 : Ent := ⟨151, [g [q 0 0 200, q 1 0 200, q 2 0 198, q 3 0 2, q 4 0 200], g [i 0, i 1]], [o22, o23, o24, o25, o26], (u [g [q 5 0 200, q 6 0 200, q 7 0 199, q 8 0 1, q 9 0 200], g [i 2, i 1, i 0, i 0, i 1], i 0]), [o22, o30, o31, o32, o33]⟩
def o34 : AObj := r (n [1, 1, 1, 0, 0, 0]) 188 3
/-- peloton/clock.Fail: 567 operations. -/
def e124 : Ent := ⟨82, [g [i 0, i 1, q 0 0 3, i 2, q 1 0 2, q 2 0 200, q 3 0 200, q 4 0 198, q 5 0 2, q 6 0 200, q 7 0 2], g [i 2, i 1]], [o0, o27, o22, o23, o24, o25, o26, o28], (u [g [i 2, i 1, q 8 0 3, i 2, q 9 0 1, q 10 0 200, q 11 0 200, q 12 0 199, q 13 0 1, q 14 0 200, q 15 0 1], g [i 2, i 1, i 0, i 0, i 1], g [i 1, i 2], i 0]), [o0, o29, o22, o30, o31, o32, o33, o34]⟩
/-- peloton/slot.Check: 11026 operations. -/
def e125 : Ent := ⟨157, [g [q 0 0 200, q 1 0 200, q 2 0 199]], [o22, o30, o31], (i 0), []⟩
/-- peloton/agenda.Check: 3553 operations. -/
def e126 : Ent := ⟨109, [g [q 0 0 200, q 1 0 200, q 2 0 199, q 3 0 1, q 4 0 200]], [o22, o30, o31, o32, o33], (i 0), []⟩
/-- peloton/course.Fails: 684 operations. -/
def e127 : Ent := ⟨159, [g [i 2, i 6, j 0], g [i 5, i 0, i 0], g [i 2, i 1]], [], (u [g [i 6, i 1], t, i 0]), []⟩
/-- peloton/clock.Check: 917 operations. -/
def e128 : Ent := ⟨58, [g [i 2, i 1, q 0 0 3, i 2, q 1 0 1, q 2 0 200, q 3 0 200, q 4 0 199, q 5 0 1, q 6 0 200, q 7 0 1]], [o0, o29, o22, o30, o31, o32, o33, o34], (i 0), []⟩
def o35 : AObj := r (n [199, 198, 197, 196, 195, 194, 193, 192, 191, 190, 189, 188, 187, 186, 185, 184, 183, 182, 181, 180, 179, 178, 177, 176, 175, 174, 173, 172, 171, 170, 169, 168, 167, 166, 165, 164, 163, 162, 161, 160, 159, 158, 157, 156, 155, 154, 153, 152, 151, 150, 149, 148, 147, 146, 145, 144, 143, 142, 141, 140, 139, 138, 137, 136, 135, 134, 133, 132, 131, 130, 129, 128, 127, 126, 125, 124, 123, 122, 121, 120, 119, 118, 117, 116, 115, 114, 113, 112, 111, 110, 109, 108, 107, 106, 105, 104, 103, 102, 101, 100, 99, 98, 97, 96, 95, 94, 93, 92, 91, 90, 89, 88, 87, 86, 85, 84, 83, 82, 81, 80, 79, 78, 77, 76, 75, 74, 73, 72, 71, 70, 69, 68, 67, 66, 65, 64, 63, 62, 61, 60, 59, 58, 57, 56, 55, 54, 53, 52, 51, 50, 49, 48, 47, 46, 45, 44, 43, 42, 41, 40, 39, 38, 37, 36, 35, 34, 33, 32, 31, 30, 29, 28, 27, 26, 25, 24, 23, 22, 21, 20, 19, 18, 17, 16, 15, 14, 13, 12, 11, 10, 9, 8, 7, 6, 5, 4, 3, 2, 0, 1]) 3 1
def o36 : AObj := r [i 6, i 1, i 1, i 1, i 1] 158 5
/-- peloton/agenda.Remove: 306 operations. -/
def e129 : Ent := ⟨151, [g [q 0 0 200, q 1 0 200, q 2 0 199, q 3 0 1, q 4 0 200], g [i 1, i 1]], [o22, o30, o31, o32, o33], (u [g [q 5 0 200, q 6 0 200, q 7 0 200, q 8 0 0, q 9 0 200], g [i 6, i 1, i 1, i 1, i 1], i 0]), [o22, o2, o35, o36, o4]⟩
/-- peloton/clock.Retire: 660 operations. -/
def e130 : Ent := ⟨101, [g [i 2, i 1, q 0 0 3, i 2, q 1 0 1, q 2 0 200, q 3 0 200, q 4 0 199, q 5 0 1, q 6 0 200, q 7 0 1], i 1], [o0, o29, o22, o30, o31, o32, o33, o34], (u [g [i 2, i 1, q 8 0 3, i 2, q 9 0 0, q 10 0 200, q 11 0 200, q 12 0 200, q 13 0 0, q 14 0 200, q 15 0 0], i 0]), [o0, r [i 0, i 0, i 0] 127 3, o22, o2, o35, o36, o4, r [i 0, i 0, i 0] 188 3]⟩
/-- peloton/slot.Check: 11056 operations. -/
def e131 : Ent := ⟨157, [g [q 0 0 200, q 1 0 200, q 2 0 200]], [o22, o2, o35], (i 0), []⟩
/-- peloton/agenda.Check: 3444 operations. -/
def e132 : Ent := ⟨109, [g [q 0 0 200, q 1 0 200, q 2 0 200, q 3 0 0, q 4 0 200]], [o22, o2, o35, o36, o4], (i 0), []⟩
/-- peloton/clock.Check: 383 operations. -/
def e133 : Ent := ⟨58, [g [i 2, i 1, q 0 0 3, i 2, q 1 0 0, q 2 0 200, q 3 0 200, q 4 0 200, q 5 0 0, q 6 0 200, q 7 0 0]], [o0, r [i 0, i 0, i 0] 127 3, o22, o2, o35, o36, o4, r [i 0, i 0, i 0] 188 3], (i 0), []⟩
/-- peloton/course.Fails: 480 operations. -/
def e134 : Ent := ⟨159, [g [i 1, i 0, i 2], g [i 2, i 6, j 0], g [i 2, i 1]], [], (u [g [i 0, i 0], f, i 0]), []⟩
/-- peloton/clock.Certify: 1067 operations. -/
def e135 : Ent := ⟨106, [g [i 2, i 1, q 0 0 3, i 2, q 1 0 0, q 2 0 200, q 3 0 200, q 4 0 200, q 5 0 0, q 6 0 200, q 7 0 0], g [i 2, i 1]], [o0, r [i 0, i 0, i 0] 127 3, o22, o2, o35, o36, o4, r [i 0, i 0, i 0] 188 3], (u [g [i 2, i 1, q 8 0 3, i 3, q 9 0 1, q 10 0 200, q 11 0 200, q 12 0 200, s 13 0 0 0, q 14 0 200, s 15 0 0 0], i 2, i 0]), [o0, r [i 2, i 2, i 1] 127 3, o22, o2, o35, r [] 158 5, o4, r [] 188 3]⟩
/-- peloton/agenda.Check: 3444 operations. -/
def e136 : Ent := ⟨109, [g [q 0 0 200, q 1 0 200, q 2 0 200, s 3 0 0 0, q 4 0 200]], [o22, o2, o35, r [] 158 5, o4], (i 0), []⟩
/-- peloton/clock.Check: 860 operations. -/
def e137 : Ent := ⟨58, [g [i 2, i 1, q 0 0 3, i 3, q 1 0 1, q 2 0 200, q 3 0 200, q 4 0 200, s 5 0 0 0, q 6 0 200, s 7 0 0 0]], [o0, r [i 2, i 2, i 1] 127 3, o22, o2, o35, r [] 158 5, o4, r [] 188 3], (i 0), []⟩
/-- peloton/course.Fails: 411 operations. -/
def e138 : Ent := ⟨159, [g [i 1, i 0, i 2], g [i 5, i 0, i 0], g [i 2, i 1]], [], (u [g [i 0, i 0], f, i 0]), []⟩
def o37 : AObj := r (n [2, 2, 1, 3, 5, 1]) 127 3
/-- peloton/clock.Certify: 1146 operations. -/
def e139 : Ent := ⟨106, [g [i 2, i 1, q 0 0 3, i 3, q 1 0 1, q 2 0 200, q 3 0 200, q 4 0 200, s 5 0 0 0, q 6 0 200, s 7 0 0 0], g [i 5, i 1]], [o0, r [i 2, i 2, i 1] 127 3, o22, o2, o35, r [] 158 5, o4, r [] 188 3], (u [g [i 2, i 1, q 8 0 3, i 4, q 9 0 2, q 10 0 200, q 11 0 200, q 12 0 200, s 13 0 0 0, q 14 0 200, s 15 0 0 0], i 3, i 0]), [o0, o37, o22, o2, o35, r [] 158 5, o4, r [] 188 3]⟩
/-- peloton/clock.Check: 1337 operations. -/
def e140 : Ent := ⟨58, [g [i 2, i 1, q 0 0 3, i 4, q 1 0 2, q 2 0 200, q 3 0 200, q 4 0 200, s 5 0 0 0, q 6 0 200, s 7 0 0 0]], [o0, o37, o22, o2, o35, r [] 158 5, o4, r [] 188 3], (i 0), []⟩
/-- peloton/kheap.Advance: 943 operations. -/
def e141 : Ent := ⟨33, [g [i 0, i 1, q 0 0 3, i 2, q 1 0 2, q 2 0 200, q 3 0 200, q 4 0 198, q 5 0 2, q 6 0 200, q 7 0 2, q 8 0 3], g [i 2, i 1]], [o0, o27, o22, o23, o24, o25, o26, o28, r [i 2, i 1, i 5] 3 1], (u [g [i 2, i 1, q 9 0 3, i 4, q 10 0 2, q 11 0 200, q 12 0 200, q 13 0 200, s 14 0 0 0, q 15 0 200, s 16 0 0 0, q 17 0 3], q 18 0 1, i 0]), [o0, o37, o22, o2, o35, r [] 158 5, o4, r [] 188 3, r [i 1, i 2, i 5] 3 1, r [i 1, i 2] 125 2]⟩
/-- peloton/course.Ahead: 478 operations. -/
def e142 : Ent := ⟨113, [g [i 1, i 0, i 2], g [i 2, i 6, j 0], g [i 2, i 1]], [], (u [t, i 0]), []⟩
/-- peloton/course.Ahead: 398 operations. -/
def e143 : Ent := ⟨113, [g [i 1, i 0, i 2], g [i 5, i 0, i 0], g [i 2, i 1]], [], (u [t, i 0]), []⟩
/-- peloton/kheap.Check: 409 operations. -/
def e144 : Ent := ⟨22, [g [i 2, i 1, q 0 0 3, i 4, q 1 0 2, q 2 0 200, q 3 0 200, q 4 0 200, s 5 0 0 0, q 6 0 200, s 7 0 0 0, q 8 0 3]], [o0, o37, o22, o2, o35, r [] 158 5, o4, r [] 188 3, r [i 1, i 2, i 5] 3 1], (i 0), []⟩
/-- peloton/choose.Check: 406 operations. -/
def e145 : Ent := ⟨6, [g [x .u8 (1), i 2, i 1, q 0 0 3, i 4, q 1 0 2, q 2 0 200, q 3 0 200, q 4 0 200, s 5 0 0 0, q 6 0 200, s 7 0 0 0, q 8 0 3, i 0, i 0, ns, i 0, ns, ns, ns, ns, ns, ns, ns, ns, ns, i 0, i 0, ns, i 0, ns, ns, ns, ns, ns, ns, ns, i 0, ns, i 0, i 0, ns, i 0, ns, ns, ns, ns, ns, ns, ns, ns]], [o0, o37, o22, o2, o35, r [] 158 5, o4, r [] 188 3, r [i 1, i 2, i 5] 3 1], (i 0), []⟩
/-- peloton/course.Ahead: 387 operations. -/
def e146 : Ent := ⟨113, [g [i 1, i 0, i 2], g [i 2, i 6, j 0], g [i 0, i 1]], [], (u [f, i 0]), []⟩
/-- peloton/bracket.Build: 2296 operations. -/
def e147 : Ent := ⟨121, [g [s 0 0 3 3], g [i 0, i 1], s 1 0 4 4], [o0, o14], (u [g [q 2 0 4, s 3 0 3 3], i 0]), [o14, r [i 2, i 2, i 5] 3 1]⟩
/-- peloton/clock.Check: 367 operations. -/
def e148 : Ent := ⟨58, [g [i 0, i 1, q 0 0 3, i 0, ns, q 1 0 200, q 2 0 200, q 3 0 200, ns, q 4 0 200, ns]], [o0, o1, o2, o3, o4], (i 0), []⟩
def o38 : AObj := r [i 6, i 1, i 0, i 0, i 1] 158 5
/-- peloton/clock.Certify: 1376 operations. -/
def e149 : Ent := ⟨106, [g [i 0, i 1, q 0 0 3, i 0, ns, q 1 0 200, q 2 0 200, q 3 0 200, ns, q 4 0 200, ns], g [i 5, i 2]], [o0, o1, o2, o3, o4], (u [g [i 0, i 1, q 5 0 3, i 1, q 6 0 1, q 7 0 200, q 8 0 200, q 9 0 199, q 10 0 1, q 11 0 200, q 12 0 1], i 0, i 0]), [o0, r [i 0, i 5, i 2] 127 3, o6, o7, o8, o38, o10, r [i 0, i 0, i 1] 188 3]⟩
/-- peloton/agenda.Check: 3553 operations. -/
def e150 : Ent := ⟨109, [g [q 0 0 200, q 1 0 200, q 2 0 199, q 3 0 1, q 4 0 200]], [o6, o7, o8, o38, o10], (i 0), []⟩
/-- peloton/clock.Check: 901 operations. -/
def e151 : Ent := ⟨58, [g [i 0, i 1, q 0 0 3, i 1, q 1 0 1, q 2 0 200, q 3 0 200, q 4 0 199, q 5 0 1, q 6 0 200, q 7 0 1]], [o0, r [i 0, i 5, i 2] 127 3, o6, o7, o8, o38, o10, r [i 0, i 0, i 1] 188 3], (i 0), []⟩
/-- peloton/ratio.Cmp: 370 operations. -/
def e152 : Ent := ⟨79, [g [i 2, i 1], g [i 6, i 1]], [], (u [j 0, i 0]), []⟩
def o39 : AObj := r (n [2, 1, 1, 1, 1, 6, 1, 0, 0, 1]) 158 5
def o40 : AObj := r ([i 1, i 0] ++ List.replicate 198 (j 0)) 3 1
/-- peloton/agenda.Push: 499 operations. -/
def e153 : Ent := ⟨150, [g [q 0 0 200, q 1 0 200, q 2 0 199, q 3 0 1, q 4 0 200], g [i 2, i 1], i 1], [o6, o7, o8, o38, o10], (u [g [q 5 0 200, q 6 0 200, q 7 0 198, q 8 0 2, q 9 0 200], g [i 1, i 1], i 0]), [o22, o23, o24, o39, o40]⟩
def o41 : AObj := r (n [0, 5, 2, 1, 1, 2]) 127 3
/-- peloton/clock.Certify: 1174 operations. -/
def e154 : Ent := ⟨106, [g [i 0, i 1, q 0 0 3, i 1, q 1 0 1, q 2 0 200, q 3 0 200, q 4 0 199, q 5 0 1, q 6 0 200, q 7 0 1], g [i 1, i 2]], [o0, r [i 0, i 5, i 2] 127 3, o6, o7, o8, o38, o10, r [i 0, i 0, i 1] 188 3], (u [g [i 0, i 1, q 8 0 3, i 2, q 9 0 2, q 10 0 200, q 11 0 200, q 12 0 198, q 13 0 2, q 14 0 200, q 15 0 2], i 1, i 0]), [o0, o41, o22, o23, o24, o39, o40, o28]⟩
/-- peloton/kheap.Renew: 753 operations. -/
def e155 : Ent := ⟨107, [g [i 0, i 1, q 0 0 3, i 0, ns, s 1 0 200 200, s 2 0 200 200, s 3 0 200 200, ns, s 4 0 200 200, ns], g [s 5 0 3 3], q 6 0 2], [o0, o1, o2, o3, o4, o0, r [i 5, i 2, i 1, i 2] 125 2], (u [g [i 0, i 1, q 7 0 3, i 2, q 8 0 2, q 9 0 200, q 10 0 200, q 11 0 198, q 12 0 2, q 13 0 200, q 14 0 2], i 0]), [o0, o41, o22, o23, o24, o39, o40, o28]⟩
/-- peloton/ktourn.Build: 476 operations. -/
def e156 : Ent := ⟨16, [g [s 0 0 3 3], g [i 0, i 1]], [o0], (u [g [i 0, i 1, q 1 0 3, i 2, q 2 0 2, q 3 0 200, q 4 0 200, q 5 0 198, q 6 0 2, q 7 0 200, q 8 0 2, q 9 0 4, s 10 0 3 3], i 0]), [o0, o41, o22, o23, o24, o39, o40, o28, o14, r [i 2, i 2, i 5] 3 1]⟩
/-- peloton/agenda.Check: 3731 operations. -/
def e157 : Ent := ⟨109, [g [q 0 0 200, q 1 0 200, q 2 0 198, q 3 0 2, q 4 0 200]], [o22, o23, o24, o39, o40], (i 0), []⟩
/-- peloton/clock.Check: 1437 operations. -/
def e158 : Ent := ⟨58, [g [i 0, i 1, q 0 0 3, i 2, q 1 0 2, q 2 0 200, q 3 0 200, q 4 0 198, q 5 0 2, q 6 0 200, q 7 0 2]], [o0, o41, o22, o23, o24, o39, o40, o28], (i 0), []⟩
/-- peloton/bracket.Check: 496 operations. -/
def e159 : Ent := ⟨62, [g [q 0 0 4, s 1 0 3 3]], [o14, r [i 2, i 2, i 5] 3 1], (i 0), []⟩
/-- peloton/bracket.Build: 2296 operations. -/
def e160 : Ent := ⟨121, [g [q 0 0 3], g [i 0, i 1], q 1 0 4], [o0, o14], (u [g [q 2 0 4, s 3 0 3 3], i 0]), [o14, r [i 2, i 2, i 5] 3 1]⟩
/-- peloton/ktourn.Check: 772 operations. -/
def e161 : Ent := ⟨23, [g [i 0, i 1, q 0 0 3, i 2, q 1 0 2, q 2 0 200, q 3 0 200, q 4 0 198, q 5 0 2, q 6 0 200, q 7 0 2, q 8 0 4, s 9 0 3 3]], [o0, o41, o22, o23, o24, o39, o40, o28, o14, r [i 2, i 2, i 5] 3 1], (i 0), []⟩
/-- peloton/choose.Check: 387 operations. -/
def e162 : Ent := ⟨6, [g [x .u8 (2), i 0, i 0, ns, i 0, ns, ns, ns, ns, ns, ns, ns, ns, i 0, i 1, q 0 0 3, i 2, q 1 0 2, q 2 0 200, q 3 0 200, q 4 0 198, q 5 0 2, q 6 0 200, q 7 0 2, q 8 0 4, s 9 0 3 3, i 0, i 0, ns, i 0, ns, ns, ns, ns, ns, ns, ns, i 0, ns, i 0, i 0, ns, i 0, ns, ns, ns, ns, ns, ns, ns, ns]], [o0, o41, o22, o23, o24, o39, o40, o28, o14, r [i 2, i 2, i 5] 3 1], (i 0), []⟩
def o42 : AObj := r (n [0, 5, 2, 0, 0, 0]) 127 3
/-- peloton/cert.Remove: 402 operations. -/
def e163 : Ent := ⟨188, [g [i 2, q 0 0 2], i 1], [o41], (u [g [i 2, q 1 0 1], g [i 1, i 2], i 0]), [o42]⟩
def o43 : AObj := r (n [6, 1, 0, 0, 1, 6, 1, 0, 0, 1]) 158 5
/-- peloton/agenda.Remove: 345 operations. -/
def e164 : Ent := ⟨151, [g [q 0 0 200, q 1 0 200, q 2 0 198, q 3 0 2, q 4 0 200], g [i 1, i 1]], [o22, o23, o24, o39, o40], (u [g [q 5 0 200, q 6 0 200, q 7 0 199, q 8 0 1, q 9 0 200], g [i 2, i 1, i 1, i 1, i 1], i 0]), [o22, o7, o8, o43, o10]⟩
def o44 : AObj := r (n [0, 0, 1, 0, 0, 0]) 188 3
/-- peloton/clock.Fail: 565 operations. -/
def e165 : Ent := ⟨82, [g [i 0, i 1, q 0 0 3, i 2, q 1 0 2, q 2 0 200, q 3 0 200, q 4 0 198, q 5 0 2, q 6 0 200, q 7 0 2], g [i 2, i 1]], [o0, o41, o22, o23, o24, o39, o40, o28], (u [g [i 2, i 1, q 8 0 3, i 2, q 9 0 1, q 10 0 200, q 11 0 200, q 12 0 199, q 13 0 1, q 14 0 200, q 15 0 1], g [i 2, i 1, i 1, i 1, i 1], g [i 1, i 2], i 0]), [o0, o42, o22, o7, o8, o43, o10, o44]⟩
/-- peloton/bracket.Build: 2314 operations. -/
def e166 : Ent := ⟨121, [g [q 0 0 3], g [i 2, i 1], q 1 0 4], [o0, o14], (u [g [q 2 0 4, s 3 0 3 3], i 0]), [o14, r [i 1, i 1, i 5] 3 1]⟩
/-- peloton/slot.Check: 11026 operations. -/
def e167 : Ent := ⟨157, [g [q 0 0 200, q 1 0 200, q 2 0 199]], [o22, o7, o8], (i 0), []⟩
/-- peloton/agenda.Check: 3553 operations. -/
def e168 : Ent := ⟨109, [g [q 0 0 200, q 1 0 200, q 2 0 199, q 3 0 1, q 4 0 200]], [o22, o7, o8, o43, o10], (i 0), []⟩
/-- peloton/clock.Check: 917 operations. -/
def e169 : Ent := ⟨58, [g [i 2, i 1, q 0 0 3, i 2, q 1 0 1, q 2 0 200, q 3 0 200, q 4 0 199, q 5 0 1, q 6 0 200, q 7 0 1]], [o0, o42, o22, o7, o8, o43, o10, o44], (i 0), []⟩
/-- peloton/agenda.Check: 3553 operations. -/
def e170 : Ent := ⟨109, [g [q 0 0 200, q 1 0 200, q 2 0 199, q 3 0 1, q 4 0 200]], [o22, o7, o8, o38, o10], (i 0), []⟩
/-- peloton/clock.Check: 917 operations. -/
def e171 : Ent := ⟨58, [g [i 2, i 1, q 0 0 3, i 2, q 1 0 1, q 2 0 200, q 3 0 200, q 4 0 199, q 5 0 1, q 6 0 200, q 7 0 1]], [o0, r [i 0, i 5, i 2] 127 3, o22, o7, o8, o38, o10, r [i 0, i 0, i 1] 188 3], (i 0), []⟩
/-- peloton/agenda.Remove: 306 operations. -/
def e172 : Ent := ⟨151, [g [q 0 0 200, q 1 0 200, q 2 0 199, q 3 0 1, q 4 0 200], g [i 0, i 1]], [o22, o7, o8, o38, o10], (u [g [q 5 0 200, q 6 0 200, q 7 0 200, q 8 0 0, q 9 0 200], g [i 6, i 1, i 0, i 0, i 1], i 0]), [o22, o2, o3, o38, o4]⟩
/-- peloton/clock.Retire: 660 operations. -/
def e173 : Ent := ⟨101, [g [i 2, i 1, q 0 0 3, i 2, q 1 0 1, q 2 0 200, q 3 0 200, q 4 0 199, q 5 0 1, q 6 0 200, q 7 0 1], i 0], [o0, r [i 0, i 5, i 2] 127 3, o22, o7, o8, o38, o10, r [i 0, i 0, i 1] 188 3], (u [g [i 2, i 1, q 8 0 3, i 2, q 9 0 0, q 10 0 200, q 11 0 200, q 12 0 200, q 13 0 0, q 14 0 200, q 15 0 0], i 0]), [o0, r [i 0, i 0, i 0] 127 3, o22, o2, o3, o38, o4, r [i 0, i 0, i 0] 188 3]⟩
/-- peloton/slot.Check: 11056 operations. -/
def e174 : Ent := ⟨157, [g [q 0 0 200, q 1 0 200, q 2 0 200]], [o22, o2, o3], (i 0), []⟩
/-- peloton/agenda.Check: 3444 operations. -/
def e175 : Ent := ⟨109, [g [q 0 0 200, q 1 0 200, q 2 0 200, q 3 0 0, q 4 0 200]], [o22, o2, o3, o38, o4], (i 0), []⟩
/-- peloton/clock.Check: 383 operations. -/
def e176 : Ent := ⟨58, [g [i 2, i 1, q 0 0 3, i 2, q 1 0 0, q 2 0 200, q 3 0 200, q 4 0 200, q 5 0 0, q 6 0 200, q 7 0 0]], [o0, r [i 0, i 0, i 0] 127 3, o22, o2, o3, o38, o4, r [i 0, i 0, i 0] 188 3], (i 0), []⟩
/-- peloton/clock.Certify: 1067 operations. -/
def e177 : Ent := ⟨106, [g [i 2, i 1, q 0 0 3, i 2, q 1 0 0, q 2 0 200, q 3 0 200, q 4 0 200, q 5 0 0, q 6 0 200, q 7 0 0], g [i 5, i 1]], [o0, r [i 0, i 0, i 0] 127 3, o22, o2, o3, o38, o4, r [i 0, i 0, i 0] 188 3], (u [g [i 2, i 1, q 8 0 3, i 3, q 9 0 1, q 10 0 200, q 11 0 200, q 12 0 200, s 13 0 0 0, q 14 0 200, s 15 0 0 0], i 2, i 0]), [o0, r [i 2, i 5, i 1] 127 3, o22, o2, o3, r [] 158 5, o4, r [] 188 3]⟩
/-- peloton/agenda.Check: 3444 operations. -/
def e178 : Ent := ⟨109, [g [q 0 0 200, q 1 0 200, q 2 0 200, s 3 0 0 0, q 4 0 200]], [o22, o2, o3, r [] 158 5, o4], (i 0), []⟩
/-- peloton/clock.Check: 860 operations. -/
def e179 : Ent := ⟨58, [g [i 2, i 1, q 0 0 3, i 3, q 1 0 1, q 2 0 200, q 3 0 200, q 4 0 200, s 5 0 0 0, q 6 0 200, s 7 0 0 0]], [o0, r [i 2, i 5, i 1] 127 3, o22, o2, o3, r [] 158 5, o4, r [] 188 3], (i 0), []⟩
def o45 : AObj := r (n [2, 5, 1, 3, 2, 1]) 127 3
/-- peloton/clock.Certify: 1146 operations. -/
def e180 : Ent := ⟨106, [g [i 2, i 1, q 0 0 3, i 3, q 1 0 1, q 2 0 200, q 3 0 200, q 4 0 200, s 5 0 0 0, q 6 0 200, s 7 0 0 0], g [i 2, i 1]], [o0, r [i 2, i 5, i 1] 127 3, o22, o2, o3, r [] 158 5, o4, r [] 188 3], (u [g [i 2, i 1, q 8 0 3, i 4, q 9 0 2, q 10 0 200, q 11 0 200, q 12 0 200, s 13 0 0 0, q 14 0 200, s 15 0 0 0], i 3, i 0]), [o0, o45, o22, o2, o3, r [] 158 5, o4, r [] 188 3]⟩
/-- peloton/kheap.Renew: 818 operations. -/
def e181 : Ent := ⟨107, [g [i 2, i 1, q 0 0 3, i 2, q 1 0 1, q 2 0 200, q 3 0 200, q 4 0 199, q 5 0 1, q 6 0 200, q 7 0 1], g [q 0 0 3], q 8 0 2], [o0, o42, o22, o7, o8, o43, o10, o44, o16], (u [g [i 2, i 1, q 9 0 3, i 4, q 10 0 2, q 11 0 200, q 12 0 200, q 13 0 200, s 14 0 0 0, q 15 0 200, s 16 0 0 0], i 0]), [o0, o45, o22, o2, o3, r [] 158 5, o4, r [] 188 3]⟩
/-- peloton/clock.Check: 1337 operations. -/
def e182 : Ent := ⟨58, [g [i 2, i 1, q 0 0 3, i 4, q 1 0 2, q 2 0 200, q 3 0 200, q 4 0 200, s 5 0 0 0, q 6 0 200, s 7 0 0 0]], [o0, o45, o22, o2, o3, r [] 158 5, o4, r [] 188 3], (i 0), []⟩
/-- peloton/ktourn.Advance: 1000 operations. -/
def e183 : Ent := ⟨34, [g [i 0, i 1, q 0 0 3, i 2, q 1 0 2, q 2 0 200, q 3 0 200, q 4 0 198, q 5 0 2, q 6 0 200, q 7 0 2, q 8 0 4, s 9 0 3 3], g [i 2, i 1]], [o0, o41, o22, o23, o24, o39, o40, o28, o14, r [i 2, i 2, i 5] 3 1], (u [g [i 2, i 1, q 10 0 3, i 4, q 11 0 2, q 12 0 200, q 13 0 200, q 14 0 200, s 15 0 0 0, q 16 0 200, s 17 0 0 0, q 18 0 4, s 19 0 3 3], q 20 0 1, i 0]), [o0, o45, o22, o2, o3, r [] 158 5, o4, r [] 188 3, o14, r [i 1, i 1, i 5] 3 1, r [i 1, i 2] 125 2]⟩
/-- peloton/ktourn.Check: 772 operations. -/
def e184 : Ent := ⟨23, [g [i 2, i 1, q 0 0 3, i 4, q 1 0 2, q 2 0 200, q 3 0 200, q 4 0 200, s 5 0 0 0, q 6 0 200, s 7 0 0 0, q 8 0 4, s 9 0 3 3]], [o0, o45, o22, o2, o3, r [] 158 5, o4, r [] 188 3, o14, r [i 1, i 1, i 5] 3 1], (i 0), []⟩
/-- peloton/choose.Check: 403 operations. -/
def e185 : Ent := ⟨6, [g [x .u8 (2), i 0, i 0, ns, i 0, ns, ns, ns, ns, ns, ns, ns, ns, i 2, i 1, q 0 0 3, i 4, q 1 0 2, q 2 0 200, q 3 0 200, q 4 0 200, s 5 0 0 0, q 6 0 200, s 7 0 0 0, q 8 0 4, s 9 0 3 3, i 0, i 0, ns, i 0, ns, ns, ns, ns, ns, ns, ns, i 0, ns, i 0, i 0, ns, i 0, ns, ns, ns, ns, ns, ns, ns, ns]], [o0, o45, o22, o2, o3, r [] 158 5, o4, r [] 188 3, o14, r [i 1, i 1, i 5] 3 1], (i 0), []⟩
def o46 : AObj := r [i 1, j 0, j 0, i 2, i 0, i 2, i 5, j 0, j 0] 145 3
/-- peloton/cartes.Of: 465 operations. -/
def e186 : Ent := ⟨124, [g [s 0 0 3 3], g [i 0, i 1]], [o0], (u [g [i 1, q 1 0 3], i 0]), [o46]⟩
/-- peloton/clock.Certify: 1380 operations. -/
def e187 : Ent := ⟨106, [g [i 0, i 1, q 0 0 3, i 0, ns, q 1 0 200, q 2 0 200, q 3 0 200, ns, q 4 0 200, ns], g [i 1, i 2]], [o0, o1, o2, o3, o4], (u [g [i 0, i 1, q 5 0 3, i 1, q 6 0 1, q 7 0 200, q 8 0 200, q 9 0 199, q 10 0 1, q 11 0 200, q 12 0 1], i 0, i 0]), [o0, r [i 0, i 1, i 2] 127 3, o6, o7, o8, o9, o10, r [i 0, i 0, i 1] 188 3]⟩
/-- peloton/kheap.Renew: 753 operations. -/
def e188 : Ent := ⟨107, [g [i 0, i 1, q 0 0 3, i 0, ns, s 1 0 200 200, s 2 0 200 200, s 3 0 200 200, ns, s 4 0 200 200, ns], g [s 5 0 3 3], q 6 0 2], [o0, o1, o2, o3, o4, o0, r [i 1, i 2, i 5, i 2] 125 2], (u [g [i 0, i 1, q 7 0 3, i 2, q 8 0 2, q 9 0 200, q 10 0 200, q 11 0 198, q 12 0 2, q 13 0 200, q 14 0 2], i 0]), [o0, o27, o22, o23, o24, o25, o26, o28]⟩
/-- peloton/choose.New: 391 operations. -/
def e189 : Ent := ⟨4, [x .u8 (3), g [s 0 0 3 3], g [i 0, i 1]], [o0], (u [g [x .u8 (3), i 0, i 0, ns, i 0, ns, ns, ns, ns, ns, ns, ns, ns, i 0, i 0, ns, i 0, ns, ns, ns, ns, ns, ns, ns, ns, ns, i 0, i 1, q 1 0 3, i 2, q 2 0 2, q 3 0 200, q 4 0 200, q 5 0 198, q 6 0 2, q 7 0 200, q 8 0 2, i 1, q 9 0 3, i 0, i 0, ns, i 0, ns, ns, ns, ns, ns, ns, ns, ns], i 0]), [o0, o27, o22, o23, o24, o25, o26, o28, o46]⟩
/-- peloton/cartes.Of: 465 operations. -/
def e190 : Ent := ⟨124, [g [q 0 0 3], g [i 0, i 1]], [o0], (u [g [i 1, q 1 0 3], i 0]), [o46]⟩
/-- peloton/heater.Check: 461 operations. -/
def e191 : Ent := ⟨24, [g [i 0, i 1, q 0 0 3, i 2, q 1 0 2, q 2 0 200, q 3 0 200, q 4 0 198, q 5 0 2, q 6 0 200, q 7 0 2, i 1, q 8 0 3]], [o0, o27, o22, o23, o24, o25, o26, o28, o46], (i 0), []⟩
/-- peloton/choose.Check: 392 operations. -/
def e192 : Ent := ⟨6, [g [x .u8 (3), i 0, i 0, ns, i 0, ns, ns, ns, ns, ns, ns, ns, ns, i 0, i 0, ns, i 0, ns, ns, ns, ns, ns, ns, ns, ns, ns, i 0, i 1, q 0 0 3, i 2, q 1 0 2, q 2 0 200, q 3 0 200, q 4 0 198, q 5 0 2, q 6 0 200, q 7 0 2, i 1, q 8 0 3, i 0, i 0, ns, i 0, ns, ns, ns, ns, ns, ns, ns, ns]], [o0, o27, o22, o23, o24, o25, o26, o28, o46], (i 0), []⟩
/-- peloton/course.Ahead: 403 operations. -/
def e193 : Ent := ⟨113, [g [i 2, i 6, j 0], g [i 5, i 0, i 0], g [i 2, i 1]], [], (u [t, i 0]), []⟩
/-- peloton/cartes.Of: 478 operations. -/
def e194 : Ent := ⟨124, [g [q 0 0 3], g [i 2, i 1]], [o0], (u [g [i 0, q 1 0 3], i 0]), [o17]⟩
/-- peloton/agenda.Check: 3553 operations. -/
def e195 : Ent := ⟨109, [g [q 0 0 200, q 1 0 200, q 2 0 199, q 3 0 1, q 4 0 200]], [o22, o30, o31, o36, o33], (i 0), []⟩
/-- peloton/clock.Check: 917 operations. -/
def e196 : Ent := ⟨58, [g [i 2, i 1, q 0 0 3, i 2, q 1 0 1, q 2 0 200, q 3 0 200, q 4 0 199, q 5 0 1, q 6 0 200, q 7 0 1]], [o0, r [i 1, i 5, i 2] 127 3, o22, o30, o31, o36, o33, r [i 1, i 1, i 1] 188 3], (i 0), []⟩
def o47 : AObj := r (n [1, 5, 2, 2, 2, 1]) 127 3
/-- peloton/clock.Certify: 1146 operations. -/
def e197 : Ent := ⟨106, [g [i 2, i 1, q 0 0 3, i 2, q 1 0 1, q 2 0 200, q 3 0 200, q 4 0 199, q 5 0 1, q 6 0 200, q 7 0 1], g [i 2, i 1]], [o0, r [i 1, i 5, i 2] 127 3, o22, o30, o31, o36, o33, r [i 1, i 1, i 1] 188 3], (u [g [i 2, i 1, q 8 0 3, i 3, q 9 0 2, q 10 0 200, q 11 0 200, q 12 0 199, q 13 0 1, q 14 0 200, q 15 0 1], i 2, i 0]), [o0, o47, o22, o30, o31, o36, o33, r [i 1, i 1, i 1] 188 3]⟩
/-- peloton/kheap.Renew: 813 operations. -/
def e198 : Ent := ⟨107, [g [i 2, i 1, q 0 0 3, i 2, q 1 0 1, q 2 0 200, q 3 0 200, q 4 0 199, q 5 0 1, q 6 0 200, q 7 0 1], g [q 0 0 3], q 8 0 2], [o0, o29, o22, o30, o31, o32, o33, o34, o20], (u [g [i 2, i 1, q 9 0 3, i 3, q 10 0 2, q 11 0 200, q 12 0 200, q 13 0 199, q 14 0 1, q 15 0 200, q 16 0 1], i 0]), [o0, o47, o22, o30, o31, o36, o33, r [i 1, i 1, i 1] 188 3]⟩
/-- peloton/clock.Check: 1394 operations. -/
def e199 : Ent := ⟨58, [g [i 2, i 1, q 0 0 3, i 3, q 1 0 2, q 2 0 200, q 3 0 200, q 4 0 199, q 5 0 1, q 6 0 200, q 7 0 1]], [o0, o47, o22, o30, o31, o36, o33, r [i 1, i 1, i 1] 188 3], (i 0), []⟩
/-- peloton/heater.Advance: 1069 operations. -/
def e200 : Ent := ⟨35, [g [i 0, i 1, q 0 0 3, i 2, q 1 0 2, q 2 0 200, q 3 0 200, q 4 0 198, q 5 0 2, q 6 0 200, q 7 0 2, i 1, q 8 0 3], g [i 2, i 1]], [o0, o27, o22, o23, o24, o25, o26, o28, o46], (u [g [i 2, i 1, q 9 0 3, i 3, q 10 0 2, q 11 0 200, q 12 0 200, q 13 0 199, q 14 0 1, q 15 0 200, q 16 0 1, i 0, q 17 0 3], q 18 0 1, i 0]), [o0, o47, o22, o30, o31, o36, o33, r [i 1, i 1, i 1] 188 3, o17, r [i 1, i 2] 125 2]⟩
/-- peloton/heater.Check: 461 operations. -/
def e201 : Ent := ⟨24, [g [i 2, i 1, q 0 0 3, i 3, q 1 0 2, q 2 0 200, q 3 0 200, q 4 0 199, q 5 0 1, q 6 0 200, q 7 0 1, i 0, q 8 0 3]], [o0, o47, o22, o30, o31, o36, o33, r [i 1, i 1, i 1] 188 3, o17], (i 0), []⟩
/-- peloton/choose.Check: 408 operations. -/
def e202 : Ent := ⟨6, [g [x .u8 (3), i 0, i 0, ns, i 0, ns, ns, ns, ns, ns, ns, ns, ns, i 0, i 0, ns, i 0, ns, ns, ns, ns, ns, ns, ns, ns, ns, i 2, i 1, q 0 0 3, i 3, q 1 0 2, q 2 0 200, q 3 0 200, q 4 0 199, q 5 0 1, q 6 0 200, q 7 0 1, i 0, q 8 0 3, i 0, i 0, ns, i 0, ns, ns, ns, ns, ns, ns, ns, ns]], [o0, o47, o22, o30, o31, o36, o33, r [i 1, i 1, i 1] 188 3, o17], (i 0), []⟩
/-- peloton/course.Ahead: 456 operations. -/
def e203 : Ent := ⟨113, [g [i 5, i 0, i 0], g [i 1, i 0, i 2], g [i 0, i 1]], [], (u [f, i 0]), []⟩
/-- peloton/course.Fails: 464 operations. -/
def e204 : Ent := ⟨159, [g [i 1, i 0, i 2], g [i 5, i 0, i 0], g [i 0, i 1]], [], (u [g [i 0, i 0], f, i 0]), []⟩
/-- peloton/clock.Certify: 1146 operations. -/
def e205 : Ent := ⟨106, [g [i 0, i 1, q 0 0 3, i 1, q 1 0 1, q 2 0 200, q 3 0 200, q 4 0 199, q 5 0 1, q 6 0 200, q 7 0 1], g [i 5, i 1]], [o0, r [i 0, i 1, i 2] 127 3, o6, o7, o8, o9, o10, r [i 0, i 0, i 1] 188 3], (u [g [i 0, i 1, q 8 0 3, i 2, q 9 0 2, q 10 0 200, q 11 0 200, q 12 0 199, q 13 0 1, q 14 0 200, q 15 0 1], i 1, i 0]), [o0, o11, o6, o7, o8, o9, o10, r [i 0, i 0, i 1] 188 3]⟩
/-- peloton/kheap.Renew: 753 operations. -/
def e206 : Ent := ⟨107, [g [i 0, i 1, q 0 0 3, i 0, ns, s 1 0 200 200, s 2 0 200 200, s 3 0 200 200, ns, s 4 0 200 200, ns], g [s 5 0 3 3], q 6 0 2], [o0, o1, o2, o3, o4, o0, o12], (u [g [i 0, i 1, q 7 0 3, i 2, q 8 0 2, q 9 0 200, q 10 0 200, q 11 0 199, q 12 0 1, q 13 0 200, q 14 0 1], i 0]), [o0, o11, o6, o7, o8, o9, o10, r [i 0, i 0, i 1] 188 3]⟩
/-- peloton/hanger.Build: 468 operations. -/
def e207 : Ent := ⟨18, [g [s 0 0 3 3], g [i 0, i 1]], [o0], (u [g [i 0, i 1, q 1 0 3, i 2, q 2 0 2, q 3 0 200, q 4 0 200, q 5 0 199, q 6 0 1, q 7 0 200, q 8 0 1, q 9 0 3], i 0]), [o0, o11, o6, o7, o8, o9, o10, r [i 0, i 0, i 1] 188 3, r [i 2, j 0, i 1] 3 1]⟩
/-- peloton/clock.Check: 1380 operations. -/
def e208 : Ent := ⟨58, [g [i 0, i 1, q 0 0 3, i 2, q 1 0 2, q 2 0 200, q 3 0 200, q 4 0 199, q 5 0 1, q 6 0 200, q 7 0 1]], [o0, o11, o6, o7, o8, o9, o10, r [i 0, i 0, i 1] 188 3], (i 0), []⟩
/-- peloton/hanger.Check: 591 operations. -/
def e209 : Ent := ⟨25, [g [i 0, i 1, q 0 0 3, i 2, q 1 0 2, q 2 0 200, q 3 0 200, q 4 0 199, q 5 0 1, q 6 0 200, q 7 0 1, q 8 0 3]], [o0, o11, o6, o7, o8, o9, o10, r [i 0, i 0, i 1] 188 3, r [i 2, j 0, i 1] 3 1], (i 0), []⟩
/-- peloton/choose.Check: 400 operations. -/
def e210 : Ent := ⟨6, [g [x .u8 (4), i 0, i 0, ns, i 0, ns, ns, ns, ns, ns, ns, ns, ns, i 0, i 0, ns, i 0, ns, ns, ns, ns, ns, ns, ns, ns, ns, i 0, i 0, ns, i 0, ns, ns, ns, ns, ns, ns, ns, i 0, ns, i 0, i 1, q 0 0 3, i 2, q 1 0 2, q 2 0 200, q 3 0 200, q 4 0 199, q 5 0 1, q 6 0 200, q 7 0 1, q 8 0 3]], [o0, o11, o6, o7, o8, o9, o10, r [i 0, i 0, i 1] 188 3, r [i 2, j 0, i 1] 3 1], (i 0), []⟩
def o48 : AObj := r (n [1, 5, 1, 0, 0, 0]) 127 3
/-- peloton/cert.Remove: 404 operations. -/
def e211 : Ent := ⟨188, [g [i 2, q 0 0 2], i 0], [o11], (u [g [i 2, q 1 0 1], g [i 1, i 2], i 0]), [o48]⟩
/-- peloton/agenda.Remove: 306 operations. -/
def e212 : Ent := ⟨151, [g [q 0 0 200, q 1 0 200, q 2 0 199, q 3 0 1, q 4 0 200], g [i 0, i 1]], [o6, o7, o8, o9, o10], (u [g [q 5 0 200, q 6 0 200, q 7 0 200, q 8 0 0, q 9 0 200], g [i 2, i 1, i 0, i 0, i 1], i 0]), [o6, o2, o3, o9, o4]⟩
/-- peloton/clock.Fail: 514 operations. -/
def e213 : Ent := ⟨82, [g [i 0, i 1, q 0 0 3, i 2, q 1 0 2, q 2 0 200, q 3 0 200, q 4 0 199, q 5 0 1, q 6 0 200, q 7 0 1], g [i 2, i 1]], [o0, o11, o6, o7, o8, o9, o10, r [i 0, i 0, i 1] 188 3], (u [g [i 2, i 1, q 8 0 3, i 2, q 9 0 1, q 10 0 200, q 11 0 200, q 12 0 200, q 13 0 0, q 14 0 200, q 15 0 0], g [i 2, i 1, i 0, i 0, i 1], g [i 1, i 2], i 0]), [o0, o48, o6, o2, o3, o9, o4, r [i 0, i 0, i 0] 188 3]⟩
/-- peloton/course.Ahead: 472 operations. -/
def e214 : Ent := ⟨113, [g [i 2, i 6, j 0], g [i 1, i 0, i 2], g [i 2, i 1]], [], (u [f, i 0]), []⟩
/-- peloton/course.Ahead: 403 operations. -/
def e215 : Ent := ⟨113, [g [i 5, i 0, i 0], g [i 1, i 0, i 2], g [i 2, i 1]], [], (u [f, i 0]), []⟩
/-- peloton/slot.Check: 11061 operations. -/
def e216 : Ent := ⟨157, [g [q 0 0 200, q 1 0 200, q 2 0 200]], [o6, o2, o3], (i 0), []⟩
/-- peloton/agenda.Check: 3444 operations. -/
def e217 : Ent := ⟨109, [g [q 0 0 200, q 1 0 200, q 2 0 200, q 3 0 0, q 4 0 200]], [o6, o2, o3, o9, o4], (i 0), []⟩
/-- peloton/clock.Check: 860 operations. -/
def e218 : Ent := ⟨58, [g [i 2, i 1, q 0 0 3, i 2, q 1 0 1, q 2 0 200, q 3 0 200, q 4 0 200, q 5 0 0, q 6 0 200, q 7 0 0]], [o0, o48, o6, o2, o3, o9, o4, r [i 0, i 0, i 0] 188 3], (i 0), []⟩
/-- peloton/agenda.Check: 3444 operations. -/
def e219 : Ent := ⟨109, [g [q 0 0 200, q 1 0 200, q 2 0 200, s 3 0 0 0, q 4 0 200]], [o6, o2, o3, r [] 158 5, o4], (i 0), []⟩
/-- peloton/clock.Check: 860 operations. -/
def e220 : Ent := ⟨58, [g [i 2, i 1, q 0 0 3, i 2, q 1 0 1, q 2 0 200, q 3 0 200, q 4 0 200, s 5 0 0 0, q 6 0 200, s 7 0 0 0]], [o0, r [i 1, i 5, i 1] 127 3, o6, o2, o3, r [] 158 5, o4, r [] 188 3], (i 0), []⟩
def o49 : AObj := r (n [1, 5, 1, 2, 2, 1]) 127 3
/-- peloton/clock.Certify: 1146 operations. -/
def e221 : Ent := ⟨106, [g [i 2, i 1, q 0 0 3, i 2, q 1 0 1, q 2 0 200, q 3 0 200, q 4 0 200, s 5 0 0 0, q 6 0 200, s 7 0 0 0], g [i 2, i 1]], [o0, r [i 1, i 5, i 1] 127 3, o6, o2, o3, r [] 158 5, o4, r [] 188 3], (u [g [i 2, i 1, q 8 0 3, i 3, q 9 0 2, q 10 0 200, q 11 0 200, q 12 0 200, s 13 0 0 0, q 14 0 200, s 15 0 0 0], i 2, i 0]), [o0, o49, o6, o2, o3, r [] 158 5, o4, r [] 188 3]⟩
/-- peloton/kheap.Renew: 813 operations. -/
def e222 : Ent := ⟨107, [g [i 2, i 1, q 0 0 3, i 2, q 1 0 1, q 2 0 200, q 3 0 200, q 4 0 200, q 5 0 0, q 6 0 200, q 7 0 0], g [q 0 0 3], q 8 0 2], [o0, o48, o6, o2, o3, o9, o4, r [i 0, i 0, i 0] 188 3, o21], (u [g [i 2, i 1, q 9 0 3, i 3, q 10 0 2, q 11 0 200, q 12 0 200, q 13 0 200, s 14 0 0 0, q 15 0 200, s 16 0 0 0], i 0]), [o0, o49, o6, o2, o3, r [] 158 5, o4, r [] 188 3]⟩
/-- peloton/clock.Check: 1337 operations. -/
def e223 : Ent := ⟨58, [g [i 2, i 1, q 0 0 3, i 3, q 1 0 2, q 2 0 200, q 3 0 200, q 4 0 200, s 5 0 0 0, q 6 0 200, s 7 0 0 0]], [o0, o49, o6, o2, o3, r [] 158 5, o4, r [] 188 3], (i 0), []⟩
/-- peloton/hanger.Advance: 1303 operations. -/
def e224 : Ent := ⟨36, [g [i 0, i 1, q 0 0 3, i 2, q 1 0 2, q 2 0 200, q 3 0 200, q 4 0 199, q 5 0 1, q 6 0 200, q 7 0 1, q 8 0 3], g [i 2, i 1]], [o0, o11, o6, o7, o8, o9, o10, r [i 0, i 0, i 1] 188 3, r [i 2, j 0, i 1] 3 1], (u [g [i 2, i 1, q 9 0 3, i 3, q 10 0 2, q 11 0 200, q 12 0 200, q 13 0 200, s 14 0 0 0, q 15 0 200, s 16 0 0 0, q 17 0 3], q 18 0 1, i 0]), [o0, o49, o6, o2, o3, r [] 158 5, o4, r [] 188 3, r [j 0, i 1, i 1] 3 1, r [i 1, i 2] 125 2]⟩
/-- peloton/hanger.Check: 545 operations. -/
def e225 : Ent := ⟨25, [g [i 2, i 1, q 0 0 3, i 3, q 1 0 2, q 2 0 200, q 3 0 200, q 4 0 200, s 5 0 0 0, q 6 0 200, s 7 0 0 0, q 8 0 3]], [o0, o49, o6, o2, o3, r [] 158 5, o4, r [] 188 3, r [j 0, i 1, i 1] 3 1], (i 0), []⟩
/-- peloton/choose.Check: 416 operations. -/
def e226 : Ent := ⟨6, [g [x .u8 (4), i 0, i 0, ns, i 0, ns, ns, ns, ns, ns, ns, ns, ns, i 0, i 0, ns, i 0, ns, ns, ns, ns, ns, ns, ns, ns, ns, i 0, i 0, ns, i 0, ns, ns, ns, ns, ns, ns, ns, i 0, ns, i 2, i 1, q 0 0 3, i 3, q 1 0 2, q 2 0 200, q 3 0 200, q 4 0 200, s 5 0 0 0, q 6 0 200, s 7 0 0 0, q 8 0 3]], [o0, o49, o6, o2, o3, r [] 158 5, o4, r [] 188 3, r [j 0, i 1, i 1] 3 1], (i 0), []⟩
/-- peloton/pelotonlaw20.ChooseNames: 13264 operations. -/
def e227 : Ent := ⟨3, [], [], t, []⟩
end Go.Proofs.YtfmbgbicbpoolaaGreat
