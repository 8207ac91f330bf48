/- The calls of the function, each with its answer, as data. -/
import Derived.Test.YtgfhhbgkleimjaaGreatAbsLit
namespace Go.Proofs.YtgfhhbgkleimjaaGreat
open Go.Abs Go.Abs.Lit

def o0 : AObj := r [i 1, i 0, i 2, i 2, i 6, j 0, i 5, i 0, i 0] 69 3
/-- peloton/choose.New: 320 operations. -/
def e0 : Ent := ⟨11, [x .u8 (2), g [s 0 0 3 3], g [i 0, i 0]], [o0], (u [g [x .u8 (0), i 0, i 0, ns, i 0, ns, ns, ns, ns, ns, ns, ns, ns, i 0, i 0, ns, i 0, ns, ns, ns, ns, ns, ns, ns, ns, ns, i 0, i 0, ns, i 0, ns, ns, ns, ns, ns, ns, ns, i 0, ns, i 0, i 0, ns, i 0, ns, ns, ns, ns, ns, ns, ns, ns], i 8]), []⟩
def o1 : AObj := r (List.replicate 200 (i 0)) 3 1
def o2 : AObj := r (List.replicate 200 f) 4 1
def o3 : AObj := r (n [199, 198, 197, 196, 195, 194, 193, 192, 191, 190, 189, 188, 187, 186, 185, 184, 183, 182, 181, 180, 179, 178, 177, 176, 175, 174, 173, 172, 171, 170, 169, 168, 167, 166, 165, 164, 163, 162, 161, 160, 159, 158, 157, 156, 155, 154, 153, 152, 151, 150, 149, 148, 147, 146, 145, 144, 143, 142, 141, 140, 139, 138, 137, 136, 135, 134, 133, 132, 131, 130, 129, 128, 127, 126, 125, 124, 123, 122, 121, 120, 119, 118, 117, 116, 115, 114, 113, 112, 111, 110, 109, 108, 107, 106, 105, 104, 103, 102, 101, 100, 99, 98, 97, 96, 95, 94, 93, 92, 91, 90, 89, 88, 87, 86, 85, 84, 83, 82, 81, 80, 79, 78, 77, 76, 75, 74, 73, 72, 71, 70, 69, 68, 67, 66, 65, 64, 63, 62, 61, 60, 59, 58, 57, 56, 55, 54, 53, 52, 51, 50, 49, 48, 47, 46, 45, 44, 43, 42, 41, 40, 39, 38, 37, 36, 35, 34, 33, 32, 31, 30, 29, 28, 27, 26, 25, 24, 23, 22, 21, 20, 19, 18, 17, 16, 15, 14, 13, 12, 11, 10, 9, 8, 7, 6, 5, 4, 3, 2, 1, 0]) 3 1
/-- peloton/slot.New: 2823 operations. -/
def e1 : Ent := ⟨114, [i 200], [], (u [g [s 0 0 200 200, s 1 0 200 200, s 2 0 200 200], i 0]), [o1, o2, o3]⟩
def o4 : AObj := r (List.replicate 200 (j 0)) 3 1
/-- peloton/clock.New: 531 operations. -/
def e2 : Ent := ⟨33, [g [s 0 0 3 3], g [i 0, i 1]], [o0], (u [g [i 0, i 1, q 1 0 3, i 0, ns, s 2 0 200 200, s 3 0 200 200, s 4 0 200 200, ns, s 5 0 200 200, ns], i 0]), [o0, o1, o2, o3, o4]⟩
/-- peloton/course.Ahead: 387 operations. -/
def e3 : Ent := ⟨103, [g [i 1, i 0, i 2], g [i 2, i 6, j 0], g [i 0, i 1]], [], (u [f, i 0]), []⟩
/-- peloton/course.Ahead: 387 operations. -/
def e4 : Ent := ⟨103, [g [i 2, i 6, j 0], g [i 5, i 0, i 0], g [i 0, i 1]], [], (u [t, i 0]), []⟩
def o5 : AObj := r [i 1, j 0, j 0, i 2, i 0, i 2, i 5, j 0, j 0] 150 3
/-- peloton/cartes.Of: 465 operations. -/
def e5 : Ent := ⟨89, [g [s 0 0 3 3], g [i 0, i 1]], [o0], (u [g [i 1, q 1 0 3], i 0]), [o5]⟩
/-- slices.Index[[]bool,bool]: 2206 operations. -/
def e6 : Ent := ⟨215, [q 0 0 200, f], [r (List.replicate 200 t) 4 1], (j 0), []⟩
/-- peloton/slot.Check: 11066 operations. -/
def e7 : Ent := ⟨146, [g [s 0 0 200 200, s 1 0 200 200, s 2 0 200 200]], [o1, o2, o3], (i 0), []⟩
/-- peloton/agenda.Check: 3444 operations. -/
def e8 : Ent := ⟨99, [g [s 0 0 200 200, s 1 0 200 200, s 2 0 200 200, ns, s 3 0 200 200]], [o1, o2, o3, o4], (i 0), []⟩
/-- peloton/clock.Check: 367 operations. -/
def e9 : Ent := ⟨54, [g [i 0, i 1, q 0 0 3, i 0, ns, s 1 0 200 200, s 2 0 200 200, s 3 0 200 200, ns, s 4 0 200 200, ns]], [o0, o1, o2, o3, o4], (i 0), []⟩
/-- peloton/field.place: 430 operations. -/
def e10 : Ent := ⟨149, [g [s 0 0 3 3], i 1], [o0], (u [i 0, i 0]), []⟩
/-- peloton/field.place: 428 operations. -/
def e11 : Ent := ⟨149, [g [s 0 0 3 3], i 2], [o0], (u [i 1, i 0]), []⟩
/-- peloton/field.place: 428 operations. -/
def e12 : Ent := ⟨149, [g [s 0 0 3 3], i 5], [o0], (u [i 2, i 0]), []⟩
/-- peloton/slot.Check: 11066 operations. -/
def e13 : Ent := ⟨146, [g [q 0 0 200, q 1 0 200, q 2 0 200]], [o1, o2, o3], (i 0), []⟩
/-- peloton/agenda.Check: 3444 operations. -/
def e14 : Ent := ⟨99, [g [q 0 0 200, q 1 0 200, q 2 0 200, ns, q 3 0 200]], [o1, o2, o3, o4], (i 0), []⟩
/-- peloton/clock.Check: 367 operations. -/
def e15 : Ent := ⟨54, [g [i 0, i 1, q 0 0 3, i 0, ns, q 1 0 200, q 2 0 200, q 3 0 200, ns, q 4 0 200, ns]], [o0, o1, o2, o3, o4], (i 0), []⟩
/-- peloton/course.Fails: 668 operations. -/
def e16 : Ent := ⟨148, [g [i 2, i 6, j 0], g [i 1, i 0, i 2], g [i 0, i 1]], [], (u [g [i 2, i 1], t, i 0]), []⟩
/-- peloton/clock.when: 390 operations. -/
def e17 : Ent := ⟨100, [g [q 0 0 3], g [i 1, i 2], g [i 0, i 1]], [o0], (u [g [i 2, i 1], t, i 0]), []⟩
def o6 : AObj := r (n [1] ++ List.replicate 199 (i 0)) 3 1
def o7 : AObj := r ([t] ++ List.replicate 199 f) 4 1
def o8 : AObj := r (n [199, 198, 197, 196, 195, 194, 193, 192, 191, 190, 189, 188, 187, 186, 185, 184, 183, 182, 181, 180, 179, 178, 177, 176, 175, 174, 173, 172, 171, 170, 169, 168, 167, 166, 165, 164, 163, 162, 161, 160, 159, 158, 157, 156, 155, 154, 153, 152, 151, 150, 149, 148, 147, 146, 145, 144, 143, 142, 141, 140, 139, 138, 137, 136, 135, 134, 133, 132, 131, 130, 129, 128, 127, 126, 125, 124, 123, 122, 121, 120, 119, 118, 117, 116, 115, 114, 113, 112, 111, 110, 109, 108, 107, 106, 105, 104, 103, 102, 101, 100, 99, 98, 97, 96, 95, 94, 93, 92, 91, 90, 89, 88, 87, 86, 85, 84, 83, 82, 81, 80, 79, 78, 77, 76, 75, 74, 73, 72, 71, 70, 69, 68, 67, 66, 65, 64, 63, 62, 61, 60, 59, 58, 57, 56, 55, 54, 53, 52, 51, 50, 49, 48, 47, 46, 45, 44, 43, 42, 41, 40, 39, 38, 37, 36, 35, 34, 33, 32, 31, 30, 29, 28, 27, 26, 25, 24, 23, 22, 21, 20, 19, 18, 17, 16, 15, 14, 13, 12, 11, 10, 9, 8, 7, 6, 5, 4, 3, 2, 1]) 3 1
def o9 : AObj := r [i 2, i 1, i 0, i 0, i 1] 122 5
def o10 : AObj := r ([i 0] ++ List.replicate 199 (j 0)) 3 1
/-- peloton/clock.Certify: 990 operations. -/
def e18 : Ent := ⟨76, [g [i 0, i 1, q 0 0 3, i 0, ns, q 1 0 200, q 2 0 200, q 3 0 200, ns, q 4 0 200, ns], g [i 1, i 2]], [o0, o1, o2, o3, o4], (u [g [i 0, i 1, q 5 0 3, i 1, q 6 0 1, q 7 0 200, q 8 0 200, q 9 0 199, q 10 0 1, q 11 0 200, q 12 0 1], i 0, i 0]), [o0, r [i 0, i 1, i 2] 137 3, o6, o7, o8, o9, o10, r [i 0, i 0, i 1] 203 3]⟩
/-- peloton/slot.Check: 11031 operations. -/
def e19 : Ent := ⟨146, [g [q 0 0 200, q 1 0 200, q 2 0 199]], [o6, o7, o8], (i 0), []⟩
/-- peloton/agenda.Check: 3553 operations. -/
def e20 : Ent := ⟨99, [g [q 0 0 200, q 1 0 200, q 2 0 199, q 3 0 1, q 4 0 200]], [o6, o7, o8, o9, o10], (i 0), []⟩
/-- peloton/clock.Check: 513 operations. -/
def e21 : Ent := ⟨54, [g [i 0, i 1, q 0 0 3, i 1, q 1 0 1, q 2 0 200, q 3 0 200, q 4 0 199, q 5 0 1, q 6 0 200, q 7 0 1]], [o0, r [i 0, i 1, i 2] 137 3, o6, o7, o8, o9, o10, r [i 0, i 0, i 1] 203 3], (i 0), []⟩
/-- peloton/course.Fails: 668 operations. -/
def e22 : Ent := ⟨148, [g [i 2, i 6, j 0], g [i 5, i 0, i 0], g [i 0, i 1]], [], (u [g [i 6, i 1], t, i 0]), []⟩
/-- peloton/clock.when: 388 operations. -/
def e23 : Ent := ⟨100, [g [q 0 0 3], g [i 5, i 2], g [i 0, i 1]], [o0], (u [g [i 6, i 1], t, i 0]), []⟩
/-- peloton/ratio.Cmp: 373 operations. -/
def e24 : Ent := ⟨43, [g [i 6, i 1], g [i 2, i 1]], [], (u [i 1, i 0]), []⟩
def o11 : AObj := r (n [1, 1] ++ List.replicate 198 (i 0)) 3 1
def o12 : AObj := r ([t, t] ++ List.replicate 198 f) 4 1
def o13 : AObj := r (n [199, 198, 197, 196, 195, 194, 193, 192, 191, 190, 189, 188, 187, 186, 185, 184, 183, 182, 181, 180, 179, 178, 177, 176, 175, 174, 173, 172, 171, 170, 169, 168, 167, 166, 165, 164, 163, 162, 161, 160, 159, 158, 157, 156, 155, 154, 153, 152, 151, 150, 149, 148, 147, 146, 145, 144, 143, 142, 141, 140, 139, 138, 137, 136, 135, 134, 133, 132, 131, 130, 129, 128, 127, 126, 125, 124, 123, 122, 121, 120, 119, 118, 117, 116, 115, 114, 113, 112, 111, 110, 109, 108, 107, 106, 105, 104, 103, 102, 101, 100, 99, 98, 97, 96, 95, 94, 93, 92, 91, 90, 89, 88, 87, 86, 85, 84, 83, 82, 81, 80, 79, 78, 77, 76, 75, 74, 73, 72, 71, 70, 69, 68, 67, 66, 65, 64, 63, 62, 61, 60, 59, 58, 57, 56, 55, 54, 53, 52, 51, 50, 49, 48, 47, 46, 45, 44, 43, 42, 41, 40, 39, 38, 37, 36, 35, 34, 33, 32, 31, 30, 29, 28, 27, 26, 25, 24, 23, 22, 21, 20, 19, 18, 17, 16, 15, 14, 13, 12, 11, 10, 9, 8, 7, 6, 5, 4, 3, 2]) 3 1
def o14 : AObj := r (n [2, 1, 0, 0, 1, 6, 1, 1, 1, 1]) 122 5
def o15 : AObj := r ([i 0, i 1] ++ List.replicate 198 (j 0)) 3 1
/-- peloton/agenda.Push: 390 operations. -/
def e25 : Ent := ⟨118, [g [q 0 0 200, q 1 0 200, q 2 0 199, q 3 0 1, q 4 0 200], g [i 6, i 1], i 1], [o6, o7, o8, o9, o10], (u [g [q 5 0 200, q 6 0 200, q 7 0 198, q 8 0 2, q 9 0 200], g [i 1, i 1], i 0]), [o11, o12, o13, o14, o15]⟩
def o16 : AObj := r (n [0, 1, 2, 1, 5, 2]) 137 3
def o17 : AObj := r (n [0, 0, 1, 1, 1, 1]) 203 3
/-- peloton/clock.Certify: 782 operations. -/
def e26 : Ent := ⟨76, [g [i 0, i 1, q 0 0 3, i 1, q 1 0 1, q 2 0 200, q 3 0 200, q 4 0 199, q 5 0 1, q 6 0 200, q 7 0 1], g [i 5, i 2]], [o0, r [i 0, i 1, i 2] 137 3, o6, o7, o8, o9, o10, r [i 0, i 0, i 1] 203 3], (u [g [i 0, i 1, q 8 0 3, i 2, q 9 0 2, q 10 0 200, q 11 0 200, q 12 0 198, q 13 0 2, q 14 0 200, q 15 0 2], i 1, i 0]), [o0, o16, o11, o12, o13, o14, o15, o17]⟩
def o18 : AObj := r [i 1, i 2, i 5, i 2] 114 2
/-- peloton/kheap.Renew: 833 operations. -/
def e27 : Ent := ⟨77, [g [i 0, i 1, q 0 0 3, i 0, ns, s 1 0 200 200, s 2 0 200 200, s 3 0 200 200, ns, s 4 0 200 200, ns], g [s 5 0 3 3], q 6 0 2], [o0, o1, o2, o3, o4, o0, o18], (u [g [i 0, i 1, q 7 0 3, i 2, q 8 0 2, q 9 0 200, q 10 0 200, q 11 0 198, q 12 0 2, q 13 0 200, q 14 0 2], i 0]), [o0, o16, o11, o12, o13, o14, o15, o17]⟩
/-- peloton/choose.New: 391 operations. -/
def e28 : Ent := ⟨11, [x .u8 (3), g [s 0 0 3 3], g [i 0, i 1]], [o0], (u [g [x .u8 (3), i 0, i 0, ns, i 0, ns, ns, ns, ns, ns, ns, ns, ns, i 0, i 0, ns, i 0, ns, ns, ns, ns, ns, ns, ns, ns, ns, i 0, i 1, q 1 0 3, i 2, q 2 0 2, q 3 0 200, q 4 0 200, q 5 0 198, q 6 0 2, q 7 0 200, q 8 0 2, i 1, q 9 0 3, i 0, i 0, ns, i 0, ns, ns, ns, ns, ns, ns, ns, ns], i 0]), [o0, o16, o11, o12, o13, o14, o15, o17, o5]⟩
/-- peloton/slot.Check: 10996 operations. -/
def e29 : Ent := ⟨146, [g [q 0 0 200, q 1 0 200, q 2 0 198]], [o11, o12, o13], (i 0), []⟩
/-- peloton/agenda.Check: 3734 operations. -/
def e30 : Ent := ⟨99, [g [q 0 0 200, q 1 0 200, q 2 0 198, q 3 0 2, q 4 0 200]], [o11, o12, o13, o14, o15], (i 0), []⟩
/-- peloton/clock.Check: 659 operations. -/
def e31 : Ent := ⟨54, [g [i 0, i 1, q 0 0 3, i 2, q 1 0 2, q 2 0 200, q 3 0 200, q 4 0 198, q 5 0 2, q 6 0 200, q 7 0 2]], [o0, o16, o11, o12, o13, o14, o15, o17], (i 0), []⟩
/-- peloton/cartes.Of: 465 operations. -/
def e32 : Ent := ⟨89, [g [q 0 0 3], g [i 0, i 1]], [o0], (u [g [i 1, q 1 0 3], i 0]), [o5]⟩
/-- peloton/heater.Check: 461 operations. -/
def e33 : Ent := ⟨30, [g [i 0, i 1, q 0 0 3, i 2, q 1 0 2, q 2 0 200, q 3 0 200, q 4 0 198, q 5 0 2, q 6 0 200, q 7 0 2, i 1, q 8 0 3]], [o0, o16, o11, o12, o13, o14, o15, o17, o5], (i 0), []⟩
/-- peloton/choose.Check: 392 operations. -/
def e34 : Ent := ⟨14, [g [x .u8 (3), i 0, i 0, ns, i 0, ns, ns, ns, ns, ns, ns, ns, ns, i 0, i 0, ns, i 0, ns, ns, ns, ns, ns, ns, ns, ns, ns, i 0, i 1, q 0 0 3, i 2, q 1 0 2, q 2 0 200, q 3 0 200, q 4 0 198, q 5 0 2, q 6 0 200, q 7 0 2, i 1, q 8 0 3, i 0, i 0, ns, i 0, ns, ns, ns, ns, ns, ns, ns, ns]], [o0, o16, o11, o12, o13, o14, o15, o17, o5], (i 0), []⟩
/-- peloton/course.Ahead: 387 operations. -/
def e35 : Ent := ⟨103, [g [i 2, i 6, j 0], g [i 1, i 0, i 2], g [i 0, i 1]], [], (u [t, i 0]), []⟩
/-- peloton/course.Ahead: 387 operations. -/
def e36 : Ent := ⟨103, [g [i 5, i 0, i 0], g [i 2, i 6, j 0], g [i 0, i 1]], [], (u [f, i 0]), []⟩
/-- peloton/course.compare: 305 operations. -/
def e37 : Ent := ⟨150, [g [i 5, i 0, i 0], g [i 1, i 0, i 2], g [i 0, i 1]], [], (j 0), []⟩
def o19 : AObj := r [i 1, i 2, i 5, i 1] 114 2
/-- peloton/hanger.hung: 567 operations. -/
def e38 : Ent := ⟨50, [g [s 0 0 3 3], g [i 0, i 1]], [o0], (u [q 1 0 3, q 2 0 2]), [r [i 2, j 0, i 1] 3 1, o19]⟩
/-- peloton/clock.when: 549 operations. -/
def e39 : Ent := ⟨100, [g [q 0 0 3], g [i 5, i 1], g [i 0, i 1]], [o0], (u [g [i 0, i 0], f, i 0]), []⟩
def o20 : AObj := r (n [0, 1, 2, 1, 5, 1]) 137 3
/-- peloton/clock.Certify: 756 operations. -/
def e40 : Ent := ⟨76, [g [i 0, i 1, q 0 0 3, i 1, q 1 0 1, q 2 0 200, q 3 0 200, q 4 0 199, q 5 0 1, q 6 0 200, q 7 0 1], g [i 5, i 1]], [o0, r [i 0, i 1, i 2] 137 3, o6, o7, o8, o9, o10, r [i 0, i 0, i 1] 203 3], (u [g [i 0, i 1, q 8 0 3, i 2, q 9 0 2, q 10 0 200, q 11 0 200, q 12 0 199, q 13 0 1, q 14 0 200, q 15 0 1], i 1, i 0]), [o0, o20, o6, o7, o8, o9, o10, r [i 0, i 0, i 1] 203 3]⟩
/-- peloton/kheap.Renew: 833 operations. -/
def e41 : Ent := ⟨77, [g [i 0, i 1, q 0 0 3, i 0, ns, s 1 0 200 200, s 2 0 200 200, s 3 0 200 200, ns, s 4 0 200 200, ns], g [s 5 0 3 3], q 6 0 2], [o0, o1, o2, o3, o4, o0, o19], (u [g [i 0, i 1, q 7 0 3, i 2, q 8 0 2, q 9 0 200, q 10 0 200, q 11 0 199, q 12 0 1, q 13 0 200, q 14 0 1], i 0]), [o0, o20, o6, o7, o8, o9, o10, r [i 0, i 0, i 1] 203 3]⟩
/-- peloton/clock.Check: 600 operations. -/
def e42 : Ent := ⟨54, [g [i 0, i 1, q 0 0 3, i 2, q 1 0 2, q 2 0 200, q 3 0 200, q 4 0 199, q 5 0 1, q 6 0 200, q 7 0 1]], [o0, o20, o6, o7, o8, o9, o10, r [i 0, i 0, i 1] 203 3], (i 0), []⟩
/-- peloton/hanger.hung: 567 operations. -/
def e43 : Ent := ⟨50, [g [q 0 0 3], g [i 0, i 1]], [o0], (u [q 1 0 3, q 2 0 2]), [r [i 2, j 0, i 1] 3 1, o19]⟩
/-- peloton/choose.Check: 575 operations. -/
def e44 : Ent := ⟨14, [g [x .u8 (4), i 0, i 0, ns, i 0, ns, ns, ns, ns, ns, ns, ns, ns, i 0, i 0, ns, i 0, ns, ns, ns, ns, ns, ns, ns, ns, ns, i 0, i 0, ns, i 0, ns, ns, ns, ns, ns, ns, ns, i 0, ns, i 0, i 1, q 0 0 3, i 2, q 1 0 2, q 2 0 200, q 3 0 200, q 4 0 199, q 5 0 1, q 6 0 200, q 7 0 1, q 8 0 3]], [o0, o20, o6, o7, o8, o9, o10, r [i 0, i 0, i 1] 203 3, r [i 2, j 0, i 1] 3 1], (i 0), []⟩
/-- peloton/hanger.Advance: 374 operations. -/
def e45 : Ent := ⟨25, [g [i 0, i 1, q 0 0 3, i 2, q 1 0 2, q 2 0 200, q 3 0 200, q 4 0 199, q 5 0 1, q 6 0 200, q 7 0 1, q 8 0 3], g [j 0, i 1]], [o0, o20, o6, o7, o8, o9, o10, r [i 0, i 0, i 1] 203 3, r [i 2, j 0, i 1] 3 1], (u [g [i 0, i 0, ns, i 0, ns, ns, ns, ns, ns, ns, ns, ns], ns, i 44]), []⟩
/-- peloton/bound.Events: 338 operations. -/
def e46 : Ent := ⟨5, [x .u8 (4), g [s 0 0 3 3], g [i 0, i 1], g [j 0, i 1]], [o0], (u [i 0, i 44]), []⟩
/-- peloton/bound.Events: 323 operations. -/
def e47 : Ent := ⟨5, [x .u8 (4), g [s 0 0 3 3], g [i 0, i 1], g [i 2000000000, i 1]], [o0], (u [i 0, i 2]), []⟩
/-- peloton/choose.Check: 359 operations. -/
def e48 : Ent := ⟨14, [g [x .u8 (0), i 0, i 0, ns, i 0, ns, ns, ns, ns, ns, ns, ns, ns, i 0, i 0, ns, i 0, ns, ns, ns, ns, ns, ns, ns, ns, ns, i 0, i 0, ns, i 0, ns, ns, ns, ns, ns, ns, ns, i 0, ns, i 0, i 0, ns, i 0, ns, ns, ns, ns, ns, ns, ns, ns]], [], (i 8), []⟩
/-- peloton/clock.New: 547 operations. -/
def e49 : Ent := ⟨33, [g [s 0 0 3 3], g [i 2, i 1]], [o0], (u [g [i 2, i 1, q 1 0 3, i 0, ns, s 2 0 200 200, s 3 0 200 200, s 4 0 200 200, ns, s 5 0 200 200, ns], i 0]), [o0, o1, o2, o3, o4]⟩
/-- peloton/course.compare: 305 operations. -/
def e50 : Ent := ⟨150, [g [i 2, i 6, j 0], g [i 1, i 0, i 2], g [i 2, i 1]], [], (j 0), []⟩
/-- peloton/course.Ahead: 403 operations. -/
def e51 : Ent := ⟨103, [g [i 5, i 0, i 0], g [i 1, i 0, i 2], g [i 2, i 1]], [], (u [f, i 0]), []⟩
/-- peloton/clock.Check: 383 operations. -/
def e52 : Ent := ⟨54, [g [i 2, i 1, q 0 0 3, i 0, ns, s 1 0 200 200, s 2 0 200 200, s 3 0 200 200, ns, s 4 0 200 200, ns]], [o0, o1, o2, o3, o4], (i 0), []⟩
/-- peloton/clock.when: 565 operations. -/
def e53 : Ent := ⟨100, [g [q 0 0 3], g [i 2, i 1], g [i 2, i 1]], [o0], (u [g [i 0, i 0], f, i 0]), []⟩
/-- peloton/clock.Certify: 665 operations. -/
def e54 : Ent := ⟨76, [g [i 2, i 1, q 0 0 3, i 0, ns, s 1 0 200 200, s 2 0 200 200, s 3 0 200 200, ns, s 4 0 200 200, ns], g [i 2, i 1]], [o0, o1, o2, o3, o4], (u [g [i 2, i 1, q 5 0 3, i 1, q 6 0 1, q 7 0 200, q 8 0 200, q 9 0 200, ns, q 10 0 200, ns], i 0, i 0]), [o0, r [i 0, i 2, i 1] 137 3, o1, o2, o3, o4]⟩
/-- peloton/clock.Check: 470 operations. -/
def e55 : Ent := ⟨54, [g [i 2, i 1, q 0 0 3, i 1, q 1 0 1, q 2 0 200, q 3 0 200, q 4 0 200, ns, q 5 0 200, ns]], [o0, r [i 0, i 2, i 1] 137 3, o1, o2, o3, o4], (i 0), []⟩
/-- peloton/course.Fails: 411 operations. -/
def e56 : Ent := ⟨148, [g [i 1, i 0, i 2], g [i 5, i 0, i 0], g [i 2, i 1]], [], (u [g [i 0, i 0], f, i 0]), []⟩
/-- peloton/clock.when: 390 operations. -/
def e57 : Ent := ⟨100, [g [q 0 0 3], g [i 5, i 1], g [i 2, i 1]], [o0], (u [g [i 0, i 0], f, i 0]), []⟩
def o21 : AObj := r (n [0, 2, 1, 1, 5, 1]) 137 3
/-- peloton/clock.Certify: 750 operations. -/
def e58 : Ent := ⟨76, [g [i 2, i 1, q 0 0 3, i 1, q 1 0 1, q 2 0 200, q 3 0 200, q 4 0 200, ns, q 5 0 200, ns], g [i 5, i 1]], [o0, r [i 0, i 2, i 1] 137 3, o1, o2, o3, o4], (u [g [i 2, i 1, q 6 0 3, i 2, q 7 0 2, q 8 0 200, q 9 0 200, q 10 0 200, ns, q 11 0 200, ns], i 1, i 0]), [o0, o21, o1, o2, o3, o4]⟩
/-- peloton/kheap.Build: 680 operations. -/
def e59 : Ent := ⟨15, [g [s 0 0 3 3], g [i 2, i 1]], [o0], (u [g [i 2, i 1, q 1 0 3, i 2, q 2 0 2, q 3 0 200, q 4 0 200, q 5 0 200, ns, q 6 0 200, ns, q 7 0 3], i 0]), [o0, o21, o1, o2, o3, o4, r [i 1, i 2, i 5] 3 1]⟩
/-- peloton/clock.Check: 557 operations. -/
def e60 : Ent := ⟨54, [g [i 2, i 1, q 0 0 3, i 2, q 1 0 2, q 2 0 200, q 3 0 200, q 4 0 200, ns, q 5 0 200, ns]], [o0, o21, o1, o2, o3, o4], (i 0), []⟩
/-- peloton/field.place: 430 operations. -/
def e61 : Ent := ⟨149, [g [q 0 0 3], i 1], [o0], (u [i 0, i 0]), []⟩
/-- peloton/field.place: 428 operations. -/
def e62 : Ent := ⟨149, [g [q 0 0 3], i 2], [o0], (u [i 1, i 0]), []⟩
/-- peloton/course.compare: 311 operations. -/
def e63 : Ent := ⟨150, [g [i 1, i 0, i 2], g [i 2, i 6, j 0], g [i 2, i 1]], [], (i 1), []⟩
/-- peloton/field.place: 428 operations. -/
def e64 : Ent := ⟨149, [g [q 0 0 3], i 5], [o0], (u [i 2, i 0]), []⟩
/-- peloton/course.Ahead: 398 operations. -/
def e65 : Ent := ⟨103, [g [i 1, i 0, i 2], g [i 5, i 0, i 0], g [i 2, i 1]], [], (u [t, i 0]), []⟩
/-- peloton/kheap.Check: 656 operations. -/
def e66 : Ent := ⟨28, [g [i 2, i 1, q 0 0 3, i 2, q 1 0 2, q 2 0 200, q 3 0 200, q 4 0 200, ns, q 5 0 200, ns, q 6 0 3]], [o0, o21, o1, o2, o3, o4, r [i 1, i 2, i 5] 3 1], (i 0), []⟩
/-- peloton/choose.Check: 406 operations. -/
def e67 : Ent := ⟨14, [g [x .u8 (1), i 2, i 1, q 0 0 3, i 2, q 1 0 2, q 2 0 200, q 3 0 200, q 4 0 200, ns, q 5 0 200, ns, q 6 0 3, i 0, i 0, ns, i 0, ns, ns, ns, ns, ns, ns, ns, ns, ns, i 0, i 0, ns, i 0, ns, ns, ns, ns, ns, ns, ns, i 0, ns, i 0, i 0, ns, i 0, ns, ns, ns, ns, ns, ns, ns, ns]], [o0, o21, o1, o2, o3, o4, r [i 1, i 2, i 5] 3 1], (i 0), []⟩
/-- peloton/ratio.Cmp: 373 operations. -/
def e68 : Ent := ⟨43, [g [i 2, i 1], g [i 2, i 1]], [], (u [i 0, i 0]), []⟩
/-- peloton/kheap.Advance: 519 operations. -/
def e69 : Ent := ⟨22, [g [i 2, i 1, q 0 0 3, i 2, q 1 0 2, q 2 0 200, q 3 0 200, q 4 0 200, ns, q 5 0 200, ns, q 6 0 3], g [i 2, i 1]], [o0, o21, o1, o2, o3, o4, r [i 1, i 2, i 5] 3 1], (u [g [i 2, i 1, q 7 0 3, i 2, q 8 0 2, q 9 0 200, q 10 0 200, q 11 0 200, ns, q 12 0 200, ns, q 13 0 3], ns, i 0]), [o0, o21, o1, o2, o3, o4, r [i 1, i 2, i 5] 3 1]⟩
/-- peloton/bound.Events: 305 operations. -/
def e70 : Ent := ⟨5, [x .u8 (1), g [s 0 0 3 3], g [i 2, i 1], g [i 2, i 1]], [o0], (u [i 0, i 0]), []⟩
/-- peloton/clock.Certify: 990 operations. -/
def e71 : Ent := ⟨76, [g [i 0, i 1, q 0 0 3, i 0, ns, s 1 0 200 200, s 2 0 200 200, s 3 0 200 200, ns, s 4 0 200 200, ns], g [i 1, i 2]], [o0, o1, o2, o3, o4], (u [g [i 0, i 1, q 5 0 3, i 1, q 6 0 1, q 7 0 200, q 8 0 200, q 9 0 199, q 10 0 1, q 11 0 200, q 12 0 1], i 0, i 0]), [o0, r [i 0, i 1, i 2] 137 3, o6, o7, o8, o9, o10, r [i 0, i 0, i 1] 203 3]⟩
/-- peloton/kheap.Build: 541 operations. -/
def e72 : Ent := ⟨15, [g [s 0 0 3 3], g [i 0, i 1]], [o0], (u [g [i 0, i 1, q 1 0 3, i 2, q 2 0 2, q 3 0 200, q 4 0 200, q 5 0 198, q 6 0 2, q 7 0 200, q 8 0 2, q 9 0 3], i 0]), [o0, o16, o11, o12, o13, o14, o15, o17, r [i 2, i 1, i 5] 3 1]⟩
/-- peloton/kheap.Check: 489 operations. -/
def e73 : Ent := ⟨28, [g [i 0, i 1, q 0 0 3, i 2, q 1 0 2, q 2 0 200, q 3 0 200, q 4 0 198, q 5 0 2, q 6 0 200, q 7 0 2, q 8 0 3]], [o0, o16, o11, o12, o13, o14, o15, o17, r [i 2, i 1, i 5] 3 1], (i 0), []⟩
/-- peloton/choose.Check: 390 operations. -/
def e74 : Ent := ⟨14, [g [x .u8 (1), i 0, i 1, q 0 0 3, i 2, q 1 0 2, q 2 0 200, q 3 0 200, q 4 0 198, q 5 0 2, q 6 0 200, q 7 0 2, q 8 0 3, i 0, i 0, ns, i 0, ns, ns, ns, ns, ns, ns, ns, ns, ns, i 0, i 0, ns, i 0, ns, ns, ns, ns, ns, ns, ns, i 0, ns, i 0, i 0, ns, i 0, ns, ns, ns, ns, ns, ns, ns, ns]], [o0, o16, o11, o12, o13, o14, o15, o17, r [i 2, i 1, i 5] 3 1], (i 0), []⟩
/-- peloton/ratio.Cmp: 357 operations. -/
def e75 : Ent := ⟨43, [g [i 6, i 1], g [i 0, i 1]], [], (u [i 1, i 0]), []⟩
/-- peloton/ratio.Cmp: 370 operations. -/
def e76 : Ent := ⟨43, [g [i 2, i 1], g [i 6, i 1]], [], (u [j 0, i 0]), []⟩
/-- peloton/cert.find: 335 operations. -/
def e77 : Ent := ⟨180, [g [i 2, q 0 0 2], i 0], [o16], (u [i 0, i 0]), []⟩
def o22 : AObj := r ([f, t] ++ List.replicate 198 f) 4 1
def o23 : AObj := r (n [199, 198, 197, 196, 195, 194, 193, 192, 191, 190, 189, 188, 187, 186, 185, 184, 183, 182, 181, 180, 179, 178, 177, 176, 175, 174, 173, 172, 171, 170, 169, 168, 167, 166, 165, 164, 163, 162, 161, 160, 159, 158, 157, 156, 155, 154, 153, 152, 151, 150, 149, 148, 147, 146, 145, 144, 143, 142, 141, 140, 139, 138, 137, 136, 135, 134, 133, 132, 131, 130, 129, 128, 127, 126, 125, 124, 123, 122, 121, 120, 119, 118, 117, 116, 115, 114, 113, 112, 111, 110, 109, 108, 107, 106, 105, 104, 103, 102, 101, 100, 99, 98, 97, 96, 95, 94, 93, 92, 91, 90, 89, 88, 87, 86, 85, 84, 83, 82, 81, 80, 79, 78, 77, 76, 75, 74, 73, 72, 71, 70, 69, 68, 67, 66, 65, 64, 63, 62, 61, 60, 59, 58, 57, 56, 55, 54, 53, 52, 51, 50, 49, 48, 47, 46, 45, 44, 43, 42, 41, 40, 39, 38, 37, 36, 35, 34, 33, 32, 31, 30, 29, 28, 27, 26, 25, 24, 23, 22, 21, 20, 19, 18, 17, 16, 15, 14, 13, 12, 11, 10, 9, 8, 7, 6, 5, 4, 3, 2, 0]) 3 1
def o24 : AObj := r (n [6, 1, 1, 1, 1, 6, 1, 1, 1, 1]) 122 5
def o25 : AObj := r ([j 0, i 0] ++ List.replicate 198 (j 0)) 3 1
/-- peloton/agenda.Remove: 345 operations. -/
def e78 : Ent := ⟨119, [g [q 0 0 200, q 1 0 200, q 2 0 198, q 3 0 2, q 4 0 200], g [i 0, i 1]], [o11, o12, o13, o14, o15], (u [g [q 5 0 200, q 6 0 200, q 7 0 199, q 8 0 1, q 9 0 200], g [i 2, i 1, i 0, i 0, i 1], i 0]), [o11, o22, o23, o24, o25]⟩
def o26 : AObj := r (n [1, 5, 2, 0, 0, 0]) 137 3
def o27 : AObj := r (n [1, 1, 1, 0, 0, 0]) 203 3
/-- peloton/clock.drop: 468 operations. -/
def e79 : Ent := ⟨86, [g [i 0, i 1, q 0 0 3, i 2, q 1 0 2, q 2 0 200, q 3 0 200, q 4 0 198, q 5 0 2, q 6 0 200, q 7 0 2], i 0], [o0, o16, o11, o12, o13, o14, o15, o17], (u [g [i 0, i 1, q 8 0 3, i 2, q 9 0 1, q 10 0 200, q 11 0 200, q 12 0 199, q 13 0 1, q 14 0 200, q 15 0 1], g [i 1, i 2], i 0]), [o0, o26, o11, o22, o23, o24, o25, o27]⟩
/-- peloton/slot.Check: 11026 operations. -/
def e80 : Ent := ⟨146, [g [q 0 0 200, q 1 0 200, q 2 0 199]], [o11, o22, o23], (i 0), []⟩
/-- peloton/agenda.Check: 3553 operations. -/
def e81 : Ent := ⟨99, [g [q 0 0 200, q 1 0 200, q 2 0 199, q 3 0 1, q 4 0 200]], [o11, o22, o23, o24, o25], (i 0), []⟩
/-- peloton/course.Fails: 684 operations. -/
def e82 : Ent := ⟨148, [g [i 2, i 6, j 0], g [i 5, i 0, i 0], g [i 2, i 1]], [], (u [g [i 6, i 1], t, i 0]), []⟩
/-- peloton/clock.when: 388 operations. -/
def e83 : Ent := ⟨100, [g [q 0 0 3], g [i 5, i 2], g [i 2, i 1]], [o0], (u [g [i 6, i 1], t, i 0]), []⟩
/-- peloton/clock.Check: 529 operations. -/
def e84 : Ent := ⟨54, [g [i 2, i 1, q 0 0 3, i 2, q 1 0 1, q 2 0 200, q 3 0 200, q 4 0 199, q 5 0 1, q 6 0 200, q 7 0 1]], [o0, o26, o11, o22, o23, o24, o25, o27], (i 0), []⟩
def o28 : AObj := r (n [199, 198, 197, 196, 195, 194, 193, 192, 191, 190, 189, 188, 187, 186, 185, 184, 183, 182, 181, 180, 179, 178, 177, 176, 175, 174, 173, 172, 171, 170, 169, 168, 167, 166, 165, 164, 163, 162, 161, 160, 159, 158, 157, 156, 155, 154, 153, 152, 151, 150, 149, 148, 147, 146, 145, 144, 143, 142, 141, 140, 139, 138, 137, 136, 135, 134, 133, 132, 131, 130, 129, 128, 127, 126, 125, 124, 123, 122, 121, 120, 119, 118, 117, 116, 115, 114, 113, 112, 111, 110, 109, 108, 107, 106, 105, 104, 103, 102, 101, 100, 99, 98, 97, 96, 95, 94, 93, 92, 91, 90, 89, 88, 87, 86, 85, 84, 83, 82, 81, 80, 79, 78, 77, 76, 75, 74, 73, 72, 71, 70, 69, 68, 67, 66, 65, 64, 63, 62, 61, 60, 59, 58, 57, 56, 55, 54, 53, 52, 51, 50, 49, 48, 47, 46, 45, 44, 43, 42, 41, 40, 39, 38, 37, 36, 35, 34, 33, 32, 31, 30, 29, 28, 27, 26, 25, 24, 23, 22, 21, 20, 19, 18, 17, 16, 15, 14, 13, 12, 11, 10, 9, 8, 7, 6, 5, 4, 3, 2, 0, 1]) 3 1
def o29 : AObj := r [i 6, i 1, i 1, i 1, i 1] 122 5
/-- peloton/agenda.Remove: 306 operations. -/
def e85 : Ent := ⟨119, [g [q 0 0 200, q 1 0 200, q 2 0 199, q 3 0 1, q 4 0 200], g [i 1, i 1]], [o11, o22, o23, o24, o25], (u [g [q 5 0 200, q 6 0 200, q 7 0 200, q 8 0 0, q 9 0 200], g [i 6, i 1, i 1, i 1, i 1], i 0]), [o11, o2, o28, o29, o4]⟩
/-- peloton/clock.drop: 636 operations. -/
def e86 : Ent := ⟨86, [g [i 2, i 1, q 0 0 3, i 2, q 1 0 1, q 2 0 200, q 3 0 200, q 4 0 199, q 5 0 1, q 6 0 200, q 7 0 1], i 1], [o0, o26, o11, o22, o23, o24, o25, o27], (u [g [i 2, i 1, q 8 0 3, i 2, q 9 0 0, q 10 0 200, q 11 0 200, q 12 0 200, q 13 0 0, q 14 0 200, q 15 0 0], g [i 5, i 2], i 0]), [o0, r [i 0, i 0, i 0] 137 3, o11, o2, o28, o29, o4, r [i 0, i 0, i 0] 203 3]⟩
/-- peloton/slot.Check: 11056 operations. -/
def e87 : Ent := ⟨146, [g [q 0 0 200, q 1 0 200, q 2 0 200]], [o11, o2, o28], (i 0), []⟩
/-- peloton/agenda.Check: 3444 operations. -/
def e88 : Ent := ⟨99, [g [q 0 0 200, q 1 0 200, q 2 0 200, q 3 0 0, q 4 0 200]], [o11, o2, o28, o29, o4], (i 0), []⟩
/-- peloton/clock.Check: 383 operations. -/
def e89 : Ent := ⟨54, [g [i 2, i 1, q 0 0 3, i 2, q 1 0 0, q 2 0 200, q 3 0 200, q 4 0 200, q 5 0 0, q 6 0 200, q 7 0 0]], [o0, r [i 0, i 0, i 0] 137 3, o11, o2, o28, o29, o4, r [i 0, i 0, i 0] 203 3], (i 0), []⟩
/-- peloton/clock.Certify: 677 operations. -/
def e90 : Ent := ⟨76, [g [i 2, i 1, q 0 0 3, i 2, q 1 0 0, q 2 0 200, q 3 0 200, q 4 0 200, q 5 0 0, q 6 0 200, q 7 0 0], g [i 2, i 1]], [o0, r [i 0, i 0, i 0] 137 3, o11, o2, o28, o29, o4, r [i 0, i 0, i 0] 203 3], (u [g [i 2, i 1, q 8 0 3, i 3, q 9 0 1, q 10 0 200, q 11 0 200, q 12 0 200, s 13 0 0 0, q 14 0 200, s 15 0 0 0], i 2, i 0]), [o0, r [i 2, i 2, i 1] 137 3, o11, o2, o28, r [] 122 5, o4, r [] 203 3]⟩
/-- peloton/agenda.Check: 3444 operations. -/
def e91 : Ent := ⟨99, [g [q 0 0 200, q 1 0 200, q 2 0 200, s 3 0 0 0, q 4 0 200]], [o11, o2, o28, r [] 122 5, o4], (i 0), []⟩
/-- peloton/clock.Check: 470 operations. -/
def e92 : Ent := ⟨54, [g [i 2, i 1, q 0 0 3, i 3, q 1 0 1, q 2 0 200, q 3 0 200, q 4 0 200, s 5 0 0 0, q 6 0 200, s 7 0 0 0]], [o0, r [i 2, i 2, i 1] 137 3, o11, o2, o28, r [] 122 5, o4, r [] 203 3], (i 0), []⟩
def o30 : AObj := r (n [2, 2, 1, 3, 5, 1]) 137 3
/-- peloton/clock.Certify: 756 operations. -/
def e93 : Ent := ⟨76, [g [i 2, i 1, q 0 0 3, i 3, q 1 0 1, q 2 0 200, q 3 0 200, q 4 0 200, s 5 0 0 0, q 6 0 200, s 7 0 0 0], g [i 5, i 1]], [o0, r [i 2, i 2, i 1] 137 3, o11, o2, o28, r [] 122 5, o4, r [] 203 3], (u [g [i 2, i 1, q 8 0 3, i 4, q 9 0 2, q 10 0 200, q 11 0 200, q 12 0 200, s 13 0 0 0, q 14 0 200, s 15 0 0 0], i 3, i 0]), [o0, o30, o11, o2, o28, r [] 122 5, o4, r [] 203 3]⟩
/-- peloton/kheap.event: 587 operations. -/
def e94 : Ent := ⟨44, [g [i 0, i 1, q 0 0 3, i 2, q 1 0 2, q 2 0 200, q 3 0 200, q 4 0 198, q 5 0 2, q 6 0 200, q 7 0 2, q 8 0 3], g [i 6, i 1]], [o0, o16, o11, o12, o13, o14, o15, o17, r [i 2, i 1, i 5] 3 1], (u [g [i 2, i 1, q 9 0 3, i 4, q 10 0 2, q 11 0 200, q 12 0 200, q 13 0 200, s 14 0 0 0, q 15 0 200, s 16 0 0 0, q 17 0 3], g [i 1, i 2], i 0]), [o0, o30, o11, o2, o28, r [] 122 5, o4, r [] 203 3, r [i 1, i 2, i 5] 3 1]⟩
/-- peloton/clock.Check: 557 operations. -/
def e95 : Ent := ⟨54, [g [i 2, i 1, q 0 0 3, i 4, q 1 0 2, q 2 0 200, q 3 0 200, q 4 0 200, s 5 0 0 0, q 6 0 200, s 7 0 0 0]], [o0, o30, o11, o2, o28, r [] 122 5, o4, r [] 203 3], (i 0), []⟩
/-- peloton/kheap.Advance: 548 operations. -/
def e96 : Ent := ⟨22, [g [i 0, i 1, q 0 0 3, i 2, q 1 0 2, q 2 0 200, q 3 0 200, q 4 0 198, q 5 0 2, q 6 0 200, q 7 0 2, q 8 0 3], g [i 6, i 1]], [o0, o16, o11, o12, o13, o14, o15, o17, r [i 2, i 1, i 5] 3 1], (u [g [i 6, i 1, q 9 0 3, i 4, q 10 0 2, q 11 0 200, q 12 0 200, q 13 0 200, s 14 0 0 0, q 15 0 200, s 16 0 0 0, q 17 0 3], q 18 0 1, i 0]), [o0, o30, o11, o2, o28, r [] 122 5, o4, r [] 203 3, r [i 1, i 2, i 5] 3 1, r [i 1, i 2] 114 2]⟩
/-- peloton/ratio.Cmp: 354 operations. -/
def e97 : Ent := ⟨43, [g [i 0, i 1], g [i 6, i 1]], [], (u [j 0, i 0]), []⟩
/-- peloton/meet.check: 374 operations. -/
def e98 : Ent := ⟨51, [g [s 0 0 3 3], s 1 0 2 2], [o0, r [i 0, i 1, i 6, i 1] 31 2], (i 0), []⟩
/-- peloton/ratio.Cmp: 354 operations. -/
def e99 : Ent := ⟨43, [g [i 0, i 1], g [i 2, i 1]], [], (u [j 0, i 0]), []⟩
/-- peloton/meet.all: 1297 operations. -/
def e100 : Ent := ⟨52, [g [s 0 0 3 3]], [o0], (q 1 0 3), [r (n [0, 1, 1, 5, 2, 1, 1, 2, 6, 1, 2, 5]) 191 4]⟩
/-- peloton/ratio.Cmp: 357 operations. -/
def e101 : Ent := ⟨43, [g [i 2, i 1], g [i 0, i 1]], [], (u [i 1, i 0]), []⟩
/-- peloton/ratio.Cmp: 341 operations. -/
def e102 : Ent := ⟨43, [g [i 0, i 1], g [i 0, i 1]], [], (u [i 0, i 0]), []⟩
/-- peloton/ratio.Cmp: 373 operations. -/
def e103 : Ent := ⟨43, [g [i 6, i 1], g [i 6, i 1]], [], (u [i 0, i 0]), []⟩
/-- peloton/meet.Count: 315 operations. -/
def e104 : Ent := ⟨13, [g [s 0 0 3 3], g [i 0, i 1], g [i 6, i 1]], [o0], (u [i 2, i 0]), []⟩
/-- peloton/bound.Spare: 321 operations. -/
def e105 : Ent := ⟨8, [x .u8 (1), g [s 0 0 3 3], g [i 0, i 1], g [i 6, i 1]], [o0], (u [i 1, i 0]), []⟩
def o31 : AObj := r [i 1, i 2, i 5, j 0] 3 1
/-- peloton/bracket.known: 851 operations. -/
def e106 : Ent := ⟨136, [g [s 0 0 3 3], s 1 0 4 4], [o0, o31], t, []⟩
/-- peloton/bracket.won: 395 operations. -/
def e107 : Ent := ⟨137, [g [s 0 0 3 3], g [i 0, i 1], i 1, i 2], [o0], (i 2), []⟩
/-- peloton/bracket.won: 393 operations. -/
def e108 : Ent := ⟨137, [g [s 0 0 3 3], g [i 0, i 1], i 2, i 5], [o0], (i 2), []⟩
/-- peloton/bracket.Build: 657 operations. -/
def e109 : Ent := ⟨87, [g [s 0 0 3 3], g [i 0, i 1], s 1 0 4 4], [o0, o31], (u [g [q 2 0 4, s 3 0 3 3], i 0]), [o31, r [i 2, i 2, i 5] 3 1]⟩
def o32 : AObj := r [i 6, i 1, i 0, i 0, i 1] 122 5
/-- peloton/clock.Certify: 988 operations. -/
def e110 : Ent := ⟨76, [g [i 0, i 1, q 0 0 3, i 0, ns, q 1 0 200, q 2 0 200, q 3 0 200, ns, q 4 0 200, ns], g [i 5, i 2]], [o0, o1, o2, o3, o4], (u [g [i 0, i 1, q 5 0 3, i 1, q 6 0 1, q 7 0 200, q 8 0 200, q 9 0 199, q 10 0 1, q 11 0 200, q 12 0 1], i 0, i 0]), [o0, r [i 0, i 5, i 2] 137 3, o6, o7, o8, o32, o10, r [i 0, i 0, i 1] 203 3]⟩
/-- peloton/agenda.Check: 3553 operations. -/
def e111 : Ent := ⟨99, [g [q 0 0 200, q 1 0 200, q 2 0 199, q 3 0 1, q 4 0 200]], [o6, o7, o8, o32, o10], (i 0), []⟩
/-- peloton/clock.Check: 513 operations. -/
def e112 : Ent := ⟨54, [g [i 0, i 1, q 0 0 3, i 1, q 1 0 1, q 2 0 200, q 3 0 200, q 4 0 199, q 5 0 1, q 6 0 200, q 7 0 1]], [o0, r [i 0, i 5, i 2] 137 3, o6, o7, o8, o32, o10, r [i 0, i 0, i 1] 203 3], (i 0), []⟩
def o33 : AObj := r (n [2, 1, 1, 1, 1, 6, 1, 0, 0, 1]) 122 5
def o34 : AObj := r ([i 1, i 0] ++ List.replicate 198 (j 0)) 3 1
/-- peloton/agenda.Push: 499 operations. -/
def e113 : Ent := ⟨118, [g [q 0 0 200, q 1 0 200, q 2 0 199, q 3 0 1, q 4 0 200], g [i 2, i 1], i 1], [o6, o7, o8, o32, o10], (u [g [q 5 0 200, q 6 0 200, q 7 0 198, q 8 0 2, q 9 0 200], g [i 1, i 1], i 0]), [o11, o12, o13, o33, o34]⟩
def o35 : AObj := r (n [0, 5, 2, 1, 1, 2]) 137 3
/-- peloton/clock.Certify: 784 operations. -/
def e114 : Ent := ⟨76, [g [i 0, i 1, q 0 0 3, i 1, q 1 0 1, q 2 0 200, q 3 0 200, q 4 0 199, q 5 0 1, q 6 0 200, q 7 0 1], g [i 1, i 2]], [o0, r [i 0, i 5, i 2] 137 3, o6, o7, o8, o32, o10, r [i 0, i 0, i 1] 203 3], (u [g [i 0, i 1, q 8 0 3, i 2, q 9 0 2, q 10 0 200, q 11 0 200, q 12 0 198, q 13 0 2, q 14 0 200, q 15 0 2], i 1, i 0]), [o0, o35, o11, o12, o13, o33, o34, o17]⟩
/-- peloton/kheap.Renew: 833 operations. -/
def e115 : Ent := ⟨77, [g [i 0, i 1, q 0 0 3, i 0, ns, s 1 0 200 200, s 2 0 200 200, s 3 0 200 200, ns, s 4 0 200 200, ns], g [s 5 0 3 3], q 6 0 2], [o0, o1, o2, o3, o4, o0, r [i 5, i 2, i 1, i 2] 114 2], (u [g [i 0, i 1, q 7 0 3, i 2, q 8 0 2, q 9 0 200, q 10 0 200, q 11 0 198, q 12 0 2, q 13 0 200, q 14 0 2], i 0]), [o0, o35, o11, o12, o13, o33, o34, o17]⟩
/-- peloton/ktourn.Build: 476 operations. -/
def e116 : Ent := ⟨16, [g [s 0 0 3 3], g [i 0, i 1]], [o0], (u [g [i 0, i 1, q 1 0 3, i 2, q 2 0 2, q 3 0 200, q 4 0 200, q 5 0 198, q 6 0 2, q 7 0 200, q 8 0 2, q 9 0 4, s 10 0 3 3], i 0]), [o0, o35, o11, o12, o13, o33, o34, o17, o31, r [i 2, i 2, i 5] 3 1]⟩
/-- peloton/agenda.Check: 3731 operations. -/
def e117 : Ent := ⟨99, [g [q 0 0 200, q 1 0 200, q 2 0 198, q 3 0 2, q 4 0 200]], [o11, o12, o13, o33, o34], (i 0), []⟩
/-- peloton/clock.Check: 659 operations. -/
def e118 : Ent := ⟨54, [g [i 0, i 1, q 0 0 3, i 2, q 1 0 2, q 2 0 200, q 3 0 200, q 4 0 198, q 5 0 2, q 6 0 200, q 7 0 2]], [o0, o35, o11, o12, o13, o33, o34, o17], (i 0), []⟩
/-- peloton/bracket.Check: 496 operations. -/
def e119 : Ent := ⟨58, [g [q 0 0 4, s 1 0 3 3]], [o31, r [i 2, i 2, i 5] 3 1], (i 0), []⟩
/-- peloton/bracket.known: 851 operations. -/
def e120 : Ent := ⟨136, [g [q 0 0 3], q 1 0 4], [o0, o31], t, []⟩
/-- peloton/bracket.won: 395 operations. -/
def e121 : Ent := ⟨137, [g [q 0 0 3], g [i 0, i 1], i 1, i 2], [o0], (i 2), []⟩
/-- peloton/bracket.won: 393 operations. -/
def e122 : Ent := ⟨137, [g [q 0 0 3], g [i 0, i 1], i 2, i 5], [o0], (i 2), []⟩
/-- peloton/bracket.Build: 657 operations. -/
def e123 : Ent := ⟨87, [g [q 0 0 3], g [i 0, i 1], q 1 0 4], [o0, o31], (u [g [q 2 0 4, s 3 0 3 3], i 0]), [o31, r [i 2, i 2, i 5] 3 1]⟩
/-- peloton/ktourn.Check: 772 operations. -/
def e124 : Ent := ⟨29, [g [i 0, i 1, q 0 0 3, i 2, q 1 0 2, q 2 0 200, q 3 0 200, q 4 0 198, q 5 0 2, q 6 0 200, q 7 0 2, q 8 0 4, s 9 0 3 3]], [o0, o35, o11, o12, o13, o33, o34, o17, o31, r [i 2, i 2, i 5] 3 1], (i 0), []⟩
/-- peloton/choose.Check: 387 operations. -/
def e125 : Ent := ⟨14, [g [x .u8 (2), i 0, i 0, ns, i 0, ns, ns, ns, ns, ns, ns, ns, ns, i 0, i 1, q 0 0 3, i 2, q 1 0 2, q 2 0 200, q 3 0 200, q 4 0 198, q 5 0 2, q 6 0 200, q 7 0 2, q 8 0 4, s 9 0 3 3, i 0, i 0, ns, i 0, ns, ns, ns, ns, ns, ns, ns, i 0, ns, i 0, i 0, ns, i 0, ns, ns, ns, ns, ns, ns, ns, ns]], [o0, o35, o11, o12, o13, o33, o34, o17, o31, r [i 2, i 2, i 5] 3 1], (i 0), []⟩
/-- peloton/cert.find: 333 operations. -/
def e126 : Ent := ⟨180, [g [i 2, q 0 0 2], i 1], [o35], (u [i 1, i 0]), []⟩
def o36 : AObj := r (n [6, 1, 0, 0, 1, 6, 1, 0, 0, 1]) 122 5
/-- peloton/agenda.Remove: 345 operations. -/
def e127 : Ent := ⟨119, [g [q 0 0 200, q 1 0 200, q 2 0 198, q 3 0 2, q 4 0 200], g [i 1, i 1]], [o11, o12, o13, o33, o34], (u [g [q 5 0 200, q 6 0 200, q 7 0 199, q 8 0 1, q 9 0 200], g [i 2, i 1, i 1, i 1, i 1], i 0]), [o11, o7, o8, o36, o10]⟩
def o37 : AObj := r (n [0, 5, 2, 0, 0, 0]) 137 3
def o38 : AObj := r (n [0, 0, 1, 0, 0, 0]) 203 3
/-- peloton/clock.drop: 466 operations. -/
def e128 : Ent := ⟨86, [g [i 0, i 1, q 0 0 3, i 2, q 1 0 2, q 2 0 200, q 3 0 200, q 4 0 198, q 5 0 2, q 6 0 200, q 7 0 2], i 1], [o0, o35, o11, o12, o13, o33, o34, o17], (u [g [i 0, i 1, q 8 0 3, i 2, q 9 0 1, q 10 0 200, q 11 0 200, q 12 0 199, q 13 0 1, q 14 0 200, q 15 0 1], g [i 1, i 2], i 0]), [o0, o37, o11, o7, o8, o36, o10, o38]⟩
/-- peloton/bracket.won: 562 operations. -/
def e129 : Ent := ⟨137, [g [q 0 0 3], g [i 2, i 1], i 1, i 2], [o0], (i 1), []⟩
/-- peloton/bracket.won: 395 operations. -/
def e130 : Ent := ⟨137, [g [q 0 0 3], g [i 2, i 1], i 1, i 5], [o0], (i 1), []⟩
/-- peloton/bracket.Build: 673 operations. -/
def e131 : Ent := ⟨87, [g [q 0 0 3], g [i 2, i 1], q 1 0 4], [o0, o31], (u [g [q 2 0 4, s 3 0 3 3], i 0]), [o31, r [i 1, i 1, i 5] 3 1]⟩
/-- peloton/slot.Check: 11026 operations. -/
def e132 : Ent := ⟨146, [g [q 0 0 200, q 1 0 200, q 2 0 199]], [o11, o7, o8], (i 0), []⟩
/-- peloton/agenda.Check: 3553 operations. -/
def e133 : Ent := ⟨99, [g [q 0 0 200, q 1 0 200, q 2 0 199, q 3 0 1, q 4 0 200]], [o11, o7, o8, o36, o10], (i 0), []⟩
/-- peloton/clock.Check: 529 operations. -/
def e134 : Ent := ⟨54, [g [i 2, i 1, q 0 0 3, i 2, q 1 0 1, q 2 0 200, q 3 0 200, q 4 0 199, q 5 0 1, q 6 0 200, q 7 0 1]], [o0, o37, o11, o7, o8, o36, o10, o38], (i 0), []⟩
/-- peloton/agenda.Check: 3553 operations. -/
def e135 : Ent := ⟨99, [g [q 0 0 200, q 1 0 200, q 2 0 199, q 3 0 1, q 4 0 200]], [o11, o7, o8, o32, o10], (i 0), []⟩
/-- peloton/clock.Check: 529 operations. -/
def e136 : Ent := ⟨54, [g [i 2, i 1, q 0 0 3, i 2, q 1 0 1, q 2 0 200, q 3 0 200, q 4 0 199, q 5 0 1, q 6 0 200, q 7 0 1]], [o0, r [i 0, i 5, i 2] 137 3, o11, o7, o8, o32, o10, r [i 0, i 0, i 1] 203 3], (i 0), []⟩
/-- peloton/agenda.Remove: 306 operations. -/
def e137 : Ent := ⟨119, [g [q 0 0 200, q 1 0 200, q 2 0 199, q 3 0 1, q 4 0 200], g [i 0, i 1]], [o11, o7, o8, o32, o10], (u [g [q 5 0 200, q 6 0 200, q 7 0 200, q 8 0 0, q 9 0 200], g [i 6, i 1, i 0, i 0, i 1], i 0]), [o11, o2, o3, o32, o4]⟩
/-- peloton/clock.drop: 636 operations. -/
def e138 : Ent := ⟨86, [g [i 2, i 1, q 0 0 3, i 2, q 1 0 1, q 2 0 200, q 3 0 200, q 4 0 199, q 5 0 1, q 6 0 200, q 7 0 1], i 0], [o0, r [i 0, i 5, i 2] 137 3, o11, o7, o8, o32, o10, r [i 0, i 0, i 1] 203 3], (u [g [i 2, i 1, q 8 0 3, i 2, q 9 0 0, q 10 0 200, q 11 0 200, q 12 0 200, q 13 0 0, q 14 0 200, q 15 0 0], g [i 5, i 2], i 0]), [o0, r [i 0, i 0, i 0] 137 3, o11, o2, o3, o32, o4, r [i 0, i 0, i 0] 203 3]⟩
/-- peloton/slot.Check: 11056 operations. -/
def e139 : Ent := ⟨146, [g [q 0 0 200, q 1 0 200, q 2 0 200]], [o11, o2, o3], (i 0), []⟩
/-- peloton/agenda.Check: 3444 operations. -/
def e140 : Ent := ⟨99, [g [q 0 0 200, q 1 0 200, q 2 0 200, q 3 0 0, q 4 0 200]], [o11, o2, o3, o32, o4], (i 0), []⟩
/-- peloton/clock.Check: 383 operations. -/
def e141 : Ent := ⟨54, [g [i 2, i 1, q 0 0 3, i 2, q 1 0 0, q 2 0 200, q 3 0 200, q 4 0 200, q 5 0 0, q 6 0 200, q 7 0 0]], [o0, r [i 0, i 0, i 0] 137 3, o11, o2, o3, o32, o4, r [i 0, i 0, i 0] 203 3], (i 0), []⟩
/-- peloton/clock.Certify: 677 operations. -/
def e142 : Ent := ⟨76, [g [i 2, i 1, q 0 0 3, i 2, q 1 0 0, q 2 0 200, q 3 0 200, q 4 0 200, q 5 0 0, q 6 0 200, q 7 0 0], g [i 5, i 1]], [o0, r [i 0, i 0, i 0] 137 3, o11, o2, o3, o32, o4, r [i 0, i 0, i 0] 203 3], (u [g [i 2, i 1, q 8 0 3, i 3, q 9 0 1, q 10 0 200, q 11 0 200, q 12 0 200, s 13 0 0 0, q 14 0 200, s 15 0 0 0], i 2, i 0]), [o0, r [i 2, i 5, i 1] 137 3, o11, o2, o3, r [] 122 5, o4, r [] 203 3]⟩
/-- peloton/agenda.Check: 3444 operations. -/
def e143 : Ent := ⟨99, [g [q 0 0 200, q 1 0 200, q 2 0 200, s 3 0 0 0, q 4 0 200]], [o11, o2, o3, r [] 122 5, o4], (i 0), []⟩
/-- peloton/clock.Check: 470 operations. -/
def e144 : Ent := ⟨54, [g [i 2, i 1, q 0 0 3, i 3, q 1 0 1, q 2 0 200, q 3 0 200, q 4 0 200, s 5 0 0 0, q 6 0 200, s 7 0 0 0]], [o0, r [i 2, i 5, i 1] 137 3, o11, o2, o3, r [] 122 5, o4, r [] 203 3], (i 0), []⟩
def o39 : AObj := r (n [2, 5, 1, 3, 2, 1]) 137 3
/-- peloton/clock.Certify: 756 operations. -/
def e145 : Ent := ⟨76, [g [i 2, i 1, q 0 0 3, i 3, q 1 0 1, q 2 0 200, q 3 0 200, q 4 0 200, s 5 0 0 0, q 6 0 200, s 7 0 0 0], g [i 2, i 1]], [o0, r [i 2, i 5, i 1] 137 3, o11, o2, o3, r [] 122 5, o4, r [] 203 3], (u [g [i 2, i 1, q 8 0 3, i 4, q 9 0 2, q 10 0 200, q 11 0 200, q 12 0 200, s 13 0 0 0, q 14 0 200, s 15 0 0 0], i 3, i 0]), [o0, o39, o11, o2, o3, r [] 122 5, o4, r [] 203 3]⟩
/-- peloton/kheap.Renew: 922 operations. -/
def e146 : Ent := ⟨77, [g [i 2, i 1, q 0 0 3, i 2, q 1 0 1, q 2 0 200, q 3 0 200, q 4 0 199, q 5 0 1, q 6 0 200, q 7 0 1], g [q 0 0 3], q 8 0 2], [o0, o37, o11, o7, o8, o36, o10, o38, r [i 5, i 1, i 2, i 1] 114 2], (u [g [i 2, i 1, q 9 0 3, i 4, q 10 0 2, q 11 0 200, q 12 0 200, q 13 0 200, s 14 0 0 0, q 15 0 200, s 16 0 0 0], i 0]), [o0, o39, o11, o2, o3, r [] 122 5, o4, r [] 203 3]⟩
/-- peloton/clock.Check: 557 operations. -/
def e147 : Ent := ⟨54, [g [i 2, i 1, q 0 0 3, i 4, q 1 0 2, q 2 0 200, q 3 0 200, q 4 0 200, s 5 0 0 0, q 6 0 200, s 7 0 0 0]], [o0, o39, o11, o2, o3, r [] 122 5, o4, r [] 203 3], (i 0), []⟩
/-- peloton/course.Ahead: 403 operations. -/
def e148 : Ent := ⟨103, [g [i 1, i 0, i 2], g [i 2, i 6, j 0], g [i 6, i 1]], [], (u [t, i 0]), []⟩
/-- peloton/bracket.won: 395 operations. -/
def e149 : Ent := ⟨137, [g [q 0 0 3], g [i 6, i 1], i 1, i 2], [o0], (i 1), []⟩
/-- peloton/course.Ahead: 398 operations. -/
def e150 : Ent := ⟨103, [g [i 1, i 0, i 2], g [i 5, i 0, i 0], g [i 6, i 1]], [], (u [t, i 0]), []⟩
/-- peloton/bracket.won: 395 operations. -/
def e151 : Ent := ⟨137, [g [q 0 0 3], g [i 6, i 1], i 1, i 5], [o0], (i 1), []⟩
/-- peloton/bracket.Build: 673 operations. -/
def e152 : Ent := ⟨87, [g [q 0 0 3], g [i 6, i 1], q 1 0 4], [o0, o31], (u [g [q 2 0 4, s 3 0 3 3], i 0]), [o31, r [i 1, i 1, i 5] 3 1]⟩
/-- peloton/ktourn.Advance: 1168 operations. -/
def e153 : Ent := ⟨23, [g [i 0, i 1, q 0 0 3, i 2, q 1 0 2, q 2 0 200, q 3 0 200, q 4 0 198, q 5 0 2, q 6 0 200, q 7 0 2, q 8 0 4, s 9 0 3 3], g [i 6, i 1]], [o0, o35, o11, o12, o13, o33, o34, o17, o31, r [i 2, i 2, i 5] 3 1], (u [g [i 6, i 1, q 10 0 3, i 4, q 11 0 2, q 12 0 200, q 13 0 200, q 14 0 200, s 15 0 0 0, q 16 0 200, s 17 0 0 0, q 18 0 4, s 19 0 3 3], q 20 0 1, i 0]), [o0, o39, o11, o2, o3, r [] 122 5, o4, r [] 203 3, o31, r [i 1, i 1, i 5] 3 1, r [i 1, i 2] 114 2]⟩
/-- peloton/bound.Spare: 325 operations. -/
def e154 : Ent := ⟨8, [x .u8 (2), g [s 0 0 3 3], g [i 0, i 1], g [i 6, i 1]], [o0], (u [i 1, i 0]), []⟩
/-- peloton/course.Ahead: 403 operations. -/
def e155 : Ent := ⟨103, [g [i 2, i 6, j 0], g [i 5, i 0, i 0], g [i 2, i 1]], [], (u [t, i 0]), []⟩
/-- peloton/cartes.Of: 645 operations. -/
def e156 : Ent := ⟨89, [g [q 0 0 3], g [i 2, i 1]], [o0], (u [g [i 0, q 1 0 3], i 0]), [r [i 1, j 0, i 1, i 2, j 0, i 2, i 5, j 0, j 0] 150 3]⟩
/-- peloton/agenda.Check: 3553 operations. -/
def e157 : Ent := ⟨99, [g [q 0 0 200, q 1 0 200, q 2 0 199, q 3 0 1, q 4 0 200]], [o11, o22, o23, o29, o25], (i 0), []⟩
/-- peloton/clock.Check: 529 operations. -/
def e158 : Ent := ⟨54, [g [i 2, i 1, q 0 0 3, i 2, q 1 0 1, q 2 0 200, q 3 0 200, q 4 0 199, q 5 0 1, q 6 0 200, q 7 0 1]], [o0, r [i 1, i 5, i 2] 137 3, o11, o22, o23, o29, o25, r [i 1, i 1, i 1] 203 3], (i 0), []⟩
def o40 : AObj := r (n [1, 5, 2, 2, 2, 1]) 137 3
/-- peloton/clock.Certify: 756 operations. -/
def e159 : Ent := ⟨76, [g [i 2, i 1, q 0 0 3, i 2, q 1 0 1, q 2 0 200, q 3 0 200, q 4 0 199, q 5 0 1, q 6 0 200, q 7 0 1], g [i 2, i 1]], [o0, r [i 1, i 5, i 2] 137 3, o11, o22, o23, o29, o25, r [i 1, i 1, i 1] 203 3], (u [g [i 2, i 1, q 8 0 3, i 3, q 9 0 2, q 10 0 200, q 11 0 200, q 12 0 199, q 13 0 1, q 14 0 200, q 15 0 1], i 2, i 0]), [o0, o40, o11, o22, o23, o29, o25, r [i 1, i 1, i 1] 203 3]⟩
/-- peloton/kheap.Renew: 893 operations. -/
def e160 : Ent := ⟨77, [g [i 2, i 1, q 0 0 3, i 2, q 1 0 1, q 2 0 200, q 3 0 200, q 4 0 199, q 5 0 1, q 6 0 200, q 7 0 1], g [q 0 0 3], q 8 0 2], [o0, o26, o11, o22, o23, o24, o25, o27, r [i 2, i 1, i 5, i 2] 114 2], (u [g [i 2, i 1, q 9 0 3, i 3, q 10 0 2, q 11 0 200, q 12 0 200, q 13 0 199, q 14 0 1, q 15 0 200, q 16 0 1], i 0]), [o0, o40, o11, o22, o23, o29, o25, r [i 1, i 1, i 1] 203 3]⟩
/-- peloton/clock.Check: 616 operations. -/
def e161 : Ent := ⟨54, [g [i 2, i 1, q 0 0 3, i 3, q 1 0 2, q 2 0 200, q 3 0 200, q 4 0 199, q 5 0 1, q 6 0 200, q 7 0 1]], [o0, o40, o11, o22, o23, o29, o25, r [i 1, i 1, i 1] 203 3], (i 0), []⟩
/-- peloton/cert.find: 335 operations. -/
def e162 : Ent := ⟨180, [g [i 3, q 0 0 2], i 1], [o40], (u [i 0, i 0]), []⟩
/-- peloton/agenda.Remove: 306 operations. -/
def e163 : Ent := ⟨119, [g [q 0 0 200, q 1 0 200, q 2 0 199, q 3 0 1, q 4 0 200], g [i 1, i 1]], [o11, o22, o23, o29, o25], (u [g [q 5 0 200, q 6 0 200, q 7 0 200, q 8 0 0, q 9 0 200], g [i 6, i 1, i 1, i 1, i 1], i 0]), [o11, o2, o28, o29, o4]⟩
def o41 : AObj := r (n [2, 2, 1, 0, 0, 0]) 137 3
/-- peloton/clock.drop: 415 operations. -/
def e164 : Ent := ⟨86, [g [i 2, i 1, q 0 0 3, i 3, q 1 0 2, q 2 0 200, q 3 0 200, q 4 0 199, q 5 0 1, q 6 0 200, q 7 0 1], i 1], [o0, o40, o11, o22, o23, o29, o25, r [i 1, i 1, i 1] 203 3], (u [g [i 2, i 1, q 8 0 3, i 3, q 9 0 1, q 10 0 200, q 11 0 200, q 12 0 200, q 13 0 0, q 14 0 200, q 15 0 0], g [i 5, i 2], i 0]), [o0, o41, o11, o2, o28, o29, o4, r [i 0, i 0, i 0] 203 3]⟩
/-- peloton/course.compare: 308 operations. -/
def e165 : Ent := ⟨150, [g [i 2, i 6, j 0], g [i 5, i 0, i 0], g [i 6, i 1]], [], (j 0), []⟩
def o42 : AObj := r [i 1, j 0, i 2, i 2, j 0, j 0, i 5, i 1, j 0] 150 3
/-- peloton/cartes.Of: 678 operations. -/
def e166 : Ent := ⟨89, [g [q 0 0 3], g [i 6, i 1]], [o0], (u [g [i 0, q 1 0 3], i 0]), [o42]⟩
/-- peloton/course.Fails: 411 operations. -/
def e167 : Ent := ⟨148, [g [i 1, i 0, i 2], g [i 2, i 6, j 0], g [i 6, i 1]], [], (u [g [i 0, i 0], f, i 0]), []⟩
/-- peloton/clock.when: 390 operations. -/
def e168 : Ent := ⟨100, [g [q 0 0 3], g [i 2, i 1], g [i 6, i 1]], [o0], (u [g [i 0, i 0], f, i 0]), []⟩
/-- peloton/clock.Check: 470 operations. -/
def e169 : Ent := ⟨54, [g [i 6, i 1, q 0 0 3, i 3, q 1 0 1, q 2 0 200, q 3 0 200, q 4 0 200, q 5 0 0, q 6 0 200, q 7 0 0]], [o0, o41, o11, o2, o28, o29, o4, r [i 0, i 0, i 0] 203 3], (i 0), []⟩
/-- peloton/clock.Check: 470 operations. -/
def e170 : Ent := ⟨54, [g [i 6, i 1, q 0 0 3, i 3, q 1 0 1, q 2 0 200, q 3 0 200, q 4 0 200, s 5 0 0 0, q 6 0 200, s 7 0 0 0]], [o0, r [i 2, i 2, i 1] 137 3, o11, o2, o28, r [] 122 5, o4, r [] 203 3], (i 0), []⟩
/-- peloton/clock.drop: 482 operations. -/
def e171 : Ent := ⟨86, [g [i 6, i 1, q 0 0 3, i 3, q 1 0 1, q 2 0 200, q 3 0 200, q 4 0 200, s 5 0 0 0, q 6 0 200, s 7 0 0 0], i 2], [o0, r [i 2, i 2, i 1] 137 3, o11, o2, o28, r [] 122 5, o4, r [] 203 3], (u [g [i 6, i 1, q 8 0 3, i 3, q 9 0 0, q 10 0 200, q 11 0 200, q 12 0 200, s 13 0 0 0, q 14 0 200, s 15 0 0 0], g [i 2, i 1], i 0]), [o0, r [i 0, i 0, i 0] 137 3, o11, o2, o28, r [] 122 5, o4, r [] 203 3]⟩
/-- peloton/clock.Check: 383 operations. -/
def e172 : Ent := ⟨54, [g [i 6, i 1, q 0 0 3, i 3, q 1 0 0, q 2 0 200, q 3 0 200, q 4 0 200, s 5 0 0 0, q 6 0 200, s 7 0 0 0]], [o0, r [i 0, i 0, i 0] 137 3, o11, o2, o28, r [] 122 5, o4, r [] 203 3], (i 0), []⟩
/-- peloton/clock.when: 563 operations. -/
def e173 : Ent := ⟨100, [g [q 0 0 3], g [i 2, i 5], g [i 6, i 1]], [o0], (u [g [i 0, i 0], f, i 0]), []⟩
/-- peloton/clock.Certify: 675 operations. -/
def e174 : Ent := ⟨76, [g [i 6, i 1, q 0 0 3, i 3, q 1 0 0, q 2 0 200, q 3 0 200, q 4 0 200, s 5 0 0 0, q 6 0 200, s 7 0 0 0], g [i 2, i 5]], [o0, r [i 0, i 0, i 0] 137 3, o11, o2, o28, r [] 122 5, o4, r [] 203 3], (u [g [i 6, i 1, q 8 0 3, i 4, q 9 0 1, q 10 0 200, q 11 0 200, q 12 0 200, s 13 0 0 0, q 14 0 200, s 15 0 0 0], i 3, i 0]), [o0, r [i 3, i 2, i 5] 137 3, o11, o2, o28, r [] 122 5, o4, r [] 203 3]⟩
/-- peloton/clock.Check: 470 operations. -/
def e175 : Ent := ⟨54, [g [i 6, i 1, q 0 0 3, i 4, q 1 0 1, q 2 0 200, q 3 0 200, q 4 0 200, s 5 0 0 0, q 6 0 200, s 7 0 0 0]], [o0, r [i 3, i 2, i 5] 137 3, o11, o2, o28, r [] 122 5, o4, r [] 203 3], (i 0), []⟩
/-- peloton/course.Fails: 411 operations. -/
def e176 : Ent := ⟨148, [g [i 1, i 0, i 2], g [i 5, i 0, i 0], g [i 6, i 1]], [], (u [g [i 0, i 0], f, i 0]), []⟩
/-- peloton/clock.when: 390 operations. -/
def e177 : Ent := ⟨100, [g [q 0 0 3], g [i 5, i 1], g [i 6, i 1]], [o0], (u [g [i 0, i 0], f, i 0]), []⟩
def o43 : AObj := r (n [3, 2, 5, 4, 5, 1]) 137 3
/-- peloton/clock.Certify: 756 operations. -/
def e178 : Ent := ⟨76, [g [i 6, i 1, q 0 0 3, i 4, q 1 0 1, q 2 0 200, q 3 0 200, q 4 0 200, s 5 0 0 0, q 6 0 200, s 7 0 0 0], g [i 5, i 1]], [o0, r [i 3, i 2, i 5] 137 3, o11, o2, o28, r [] 122 5, o4, r [] 203 3], (u [g [i 6, i 1, q 8 0 3, i 5, q 9 0 2, q 10 0 200, q 11 0 200, q 12 0 200, s 13 0 0 0, q 14 0 200, s 15 0 0 0], i 4, i 0]), [o0, o43, o11, o2, o28, r [] 122 5, o4, r [] 203 3]⟩
/-- peloton/kheap.Renew: 922 operations. -/
def e179 : Ent := ⟨77, [g [i 6, i 1, q 0 0 3, i 3, q 1 0 1, q 2 0 200, q 3 0 200, q 4 0 200, q 5 0 0, q 6 0 200, q 7 0 0], g [q 0 0 3], q 8 0 2], [o0, o41, o11, o2, o28, o29, o4, r [i 0, i 0, i 0] 203 3, r [i 2, i 5, i 5, i 1] 114 2], (u [g [i 6, i 1, q 9 0 3, i 5, q 10 0 2, q 11 0 200, q 12 0 200, q 13 0 200, s 14 0 0 0, q 15 0 200, s 16 0 0 0], i 0]), [o0, o43, o11, o2, o28, r [] 122 5, o4, r [] 203 3]⟩
/-- peloton/clock.Check: 557 operations. -/
def e180 : Ent := ⟨54, [g [i 6, i 1, q 0 0 3, i 5, q 1 0 2, q 2 0 200, q 3 0 200, q 4 0 200, s 5 0 0 0, q 6 0 200, s 7 0 0 0]], [o0, o43, o11, o2, o28, r [] 122 5, o4, r [] 203 3], (i 0), []⟩
/-- peloton/heater.Advance: 1680 operations. -/
def e181 : Ent := ⟨24, [g [i 0, i 1, q 0 0 3, i 2, q 1 0 2, q 2 0 200, q 3 0 200, q 4 0 198, q 5 0 2, q 6 0 200, q 7 0 2, i 1, q 8 0 3], g [i 6, i 1]], [o0, o16, o11, o12, o13, o14, o15, o17, o5], (u [g [i 6, i 1, q 9 0 3, i 5, q 10 0 2, q 11 0 200, q 12 0 200, q 13 0 200, s 14 0 0 0, q 15 0 200, s 16 0 0 0, i 0, q 17 0 3], q 18 0 2, i 0]), [o0, o43, o11, o2, o28, r [] 122 5, o4, r [] 203 3, o42, o18]⟩
/-- peloton/cert.find: 335 operations. -/
def e182 : Ent := ⟨180, [g [i 2, q 0 0 2], i 0], [o20], (u [i 0, i 0]), []⟩
/-- peloton/agenda.Remove: 306 operations. -/
def e183 : Ent := ⟨119, [g [q 0 0 200, q 1 0 200, q 2 0 199, q 3 0 1, q 4 0 200], g [i 0, i 1]], [o6, o7, o8, o9, o10], (u [g [q 5 0 200, q 6 0 200, q 7 0 200, q 8 0 0, q 9 0 200], g [i 2, i 1, i 0, i 0, i 1], i 0]), [o6, o2, o3, o9, o4]⟩
def o44 : AObj := r (n [1, 5, 1, 0, 0, 0]) 137 3
/-- peloton/clock.drop: 415 operations. -/
def e184 : Ent := ⟨86, [g [i 0, i 1, q 0 0 3, i 2, q 1 0 2, q 2 0 200, q 3 0 200, q 4 0 199, q 5 0 1, q 6 0 200, q 7 0 1], i 0], [o0, o20, o6, o7, o8, o9, o10, r [i 0, i 0, i 1] 203 3], (u [g [i 0, i 1, q 8 0 3, i 2, q 9 0 1, q 10 0 200, q 11 0 200, q 12 0 200, q 13 0 0, q 14 0 200, q 15 0 0], g [i 1, i 2], i 0]), [o0, o44, o6, o2, o3, o9, o4, r [i 0, i 0, i 0] 203 3]⟩
def o45 : AObj := r [i 2, i 1, i 5, i 1] 114 2
/-- peloton/hanger.hung: 537 operations. -/
def e185 : Ent := ⟨50, [g [q 0 0 3], g [i 2, i 1]], [o0], (u [q 1 0 3, q 2 0 2]), [r [j 0, i 1, i 1] 3 1, o45]⟩
/-- peloton/slot.Check: 11061 operations. -/
def e186 : Ent := ⟨146, [g [q 0 0 200, q 1 0 200, q 2 0 200]], [o6, o2, o3], (i 0), []⟩
/-- peloton/agenda.Check: 3444 operations. -/
def e187 : Ent := ⟨99, [g [q 0 0 200, q 1 0 200, q 2 0 200, q 3 0 0, q 4 0 200]], [o6, o2, o3, o9, o4], (i 0), []⟩
/-- peloton/clock.Check: 470 operations. -/
def e188 : Ent := ⟨54, [g [i 2, i 1, q 0 0 3, i 2, q 1 0 1, q 2 0 200, q 3 0 200, q 4 0 200, q 5 0 0, q 6 0 200, q 7 0 0]], [o0, o44, o6, o2, o3, o9, o4, r [i 0, i 0, i 0] 203 3], (i 0), []⟩
/-- peloton/agenda.Check: 3444 operations. -/
def e189 : Ent := ⟨99, [g [q 0 0 200, q 1 0 200, q 2 0 200, s 3 0 0 0, q 4 0 200]], [o6, o2, o3, r [] 122 5, o4], (i 0), []⟩
/-- peloton/clock.Check: 470 operations. -/
def e190 : Ent := ⟨54, [g [i 2, i 1, q 0 0 3, i 2, q 1 0 1, q 2 0 200, q 3 0 200, q 4 0 200, s 5 0 0 0, q 6 0 200, s 7 0 0 0]], [o0, r [i 1, i 5, i 1] 137 3, o6, o2, o3, r [] 122 5, o4, r [] 203 3], (i 0), []⟩
def o46 : AObj := r (n [1, 5, 1, 2, 2, 1]) 137 3
/-- peloton/clock.Certify: 756 operations. -/
def e191 : Ent := ⟨76, [g [i 2, i 1, q 0 0 3, i 2, q 1 0 1, q 2 0 200, q 3 0 200, q 4 0 200, s 5 0 0 0, q 6 0 200, s 7 0 0 0], g [i 2, i 1]], [o0, r [i 1, i 5, i 1] 137 3, o6, o2, o3, r [] 122 5, o4, r [] 203 3], (u [g [i 2, i 1, q 8 0 3, i 3, q 9 0 2, q 10 0 200, q 11 0 200, q 12 0 200, s 13 0 0 0, q 14 0 200, s 15 0 0 0], i 2, i 0]), [o0, o46, o6, o2, o3, r [] 122 5, o4, r [] 203 3]⟩
/-- peloton/kheap.Renew: 893 operations. -/
def e192 : Ent := ⟨77, [g [i 2, i 1, q 0 0 3, i 2, q 1 0 1, q 2 0 200, q 3 0 200, q 4 0 200, q 5 0 0, q 6 0 200, q 7 0 0], g [q 0 0 3], q 8 0 2], [o0, o44, o6, o2, o3, o9, o4, r [i 0, i 0, i 0] 203 3, o45], (u [g [i 2, i 1, q 9 0 3, i 3, q 10 0 2, q 11 0 200, q 12 0 200, q 13 0 200, s 14 0 0 0, q 15 0 200, s 16 0 0 0], i 0]), [o0, o46, o6, o2, o3, r [] 122 5, o4, r [] 203 3]⟩
/-- peloton/clock.Check: 557 operations. -/
def e193 : Ent := ⟨54, [g [i 2, i 1, q 0 0 3, i 3, q 1 0 2, q 2 0 200, q 3 0 200, q 4 0 200, s 5 0 0 0, q 6 0 200, s 7 0 0 0]], [o0, o46, o6, o2, o3, r [] 122 5, o4, r [] 203 3], (i 0), []⟩
/-- peloton/course.Ahead: 403 operations. -/
def e194 : Ent := ⟨103, [g [i 2, i 6, j 0], g [i 1, i 0, i 2], g [i 6, i 1]], [], (u [f, i 0]), []⟩
/-- peloton/course.Ahead: 403 operations. -/
def e195 : Ent := ⟨103, [g [i 5, i 0, i 0], g [i 1, i 0, i 2], g [i 6, i 1]], [], (u [f, i 0]), []⟩
/-- peloton/hanger.hung: 370 operations. -/
def e196 : Ent := ⟨50, [g [q 0 0 3], g [i 6, i 1]], [o0], (u [q 1 0 3, q 2 0 2]), [r [j 0, i 1, i 1] 3 1, o45]⟩
/-- peloton/hanger.Advance: 906 operations. -/
def e197 : Ent := ⟨25, [g [i 0, i 1, q 0 0 3, i 2, q 1 0 2, q 2 0 200, q 3 0 200, q 4 0 199, q 5 0 1, q 6 0 200, q 7 0 1, q 8 0 3], g [i 6, i 1]], [o0, o20, o6, o7, o8, o9, o10, r [i 0, i 0, i 1] 203 3, r [i 2, j 0, i 1] 3 1], (u [g [i 6, i 1, q 9 0 3, i 3, q 10 0 2, q 11 0 200, q 12 0 200, q 13 0 200, s 14 0 0 0, q 15 0 200, s 16 0 0 0, q 17 0 3], q 18 0 1, i 0]), [o0, o46, o6, o2, o3, r [] 122 5, o4, r [] 203 3, r [j 0, i 1, i 1] 3 1, r [i 1, i 2] 114 2]⟩
/-- peloton/bound.Events: 351 operations. -/
def e198 : Ent := ⟨5, [x .u8 (4), g [s 0 0 3 3], g [i 0, i 1], g [i 6, i 1]], [o0], (u [i 1, i 0]), []⟩
/-- peloton/pelotonlaw22.alive: 1373 operations. -/
def e199 : Ent := ⟨10, [], [], t, []⟩
/-- peloton/pelotonlaw22.BoundNames: 613 operations. -/
def e200 : Ent := ⟨3, [], [], t, []⟩
end Go.Proofs.YtgfhhbgkleimjaaGreat
