/- The calls of the function, each with its answer, as data. -/
import Derived.Test.YtcblamejajbkjaaGreatAbsLit
namespace Go.Proofs.YtcblamejajbkjaaGreat
open Go.Abs Go.Abs.Lit

def o0 : AObj := r [i 1, i 0, i 2, i 2, i 6, j 0] 76 3
/-- peloton/oracle.Check: 246 operations. -/
def e0 : Ent := ⟨17, [g [i 0, i 1, s 0 0 2 2]], [o0], (i 0), []⟩
def o1 : AObj := r (List.replicate 200 (i 0)) 3 1
def o2 : AObj := r (List.replicate 200 f) 4 1
def o3 : AObj := r (n [199, 198, 197, 196, 195, 194, 193, 192, 191, 190, 189, 188, 187, 186, 185, 184, 183, 182, 181, 180, 179, 178, 177, 176, 175, 174, 173, 172, 171, 170, 169, 168, 167, 166, 165, 164, 163, 162, 161, 160, 159, 158, 157, 156, 155, 154, 153, 152, 151, 150, 149, 148, 147, 146, 145, 144, 143, 142, 141, 140, 139, 138, 137, 136, 135, 134, 133, 132, 131, 130, 129, 128, 127, 126, 125, 124, 123, 122, 121, 120, 119, 118, 117, 116, 115, 114, 113, 112, 111, 110, 109, 108, 107, 106, 105, 104, 103, 102, 101, 100, 99, 98, 97, 96, 95, 94, 93, 92, 91, 90, 89, 88, 87, 86, 85, 84, 83, 82, 81, 80, 79, 78, 77, 76, 75, 74, 73, 72, 71, 70, 69, 68, 67, 66, 65, 64, 63, 62, 61, 60, 59, 58, 57, 56, 55, 54, 53, 52, 51, 50, 49, 48, 47, 46, 45, 44, 43, 42, 41, 40, 39, 38, 37, 36, 35, 34, 33, 32, 31, 30, 29, 28, 27, 26, 25, 24, 23, 22, 21, 20, 19, 18, 17, 16, 15, 14, 13, 12, 11, 10, 9, 8, 7, 6, 5, 4, 3, 2, 1, 0]) 3 1
/-- peloton/slot.New: 2823 operations. -/
def e1 : Ent := ⟨145, [i 200], [], (u [g [s 0 0 200 200, s 1 0 200 200, s 2 0 200 200], i 0]), [o1, o2, o3]⟩
def o4 : AObj := r (List.replicate 200 (j 0)) 3 1
/-- slices.Repeat[[]int,int]: 210 operations. -/
def e2 : Ent := ⟨142, [s 0 0 1 1, i 200], [r [j 0] 3 1], (s 1 0 200 200), [o4]⟩
/-- peloton/clock.New: 246 operations. -/
def e3 : Ent := ⟨44, [g [s 0 0 2 2], g [i 0, i 1]], [o0], (u [g [i 0, i 1, q 1 0 2, i 0, ns, s 2 0 200 200, s 3 0 200 200, s 4 0 200 200, ns, s 5 0 200 200, ns], i 0]), [o0, o1, o2, o3, o4]⟩
/-- peloton/cartes.timed: 200 operations. -/
def e4 : Ent := ⟨303, [g [s 0 0 2 2], g [i 0, i 1]], [o0], (i 0), []⟩
/-- peloton/course.sum: 205 operations. -/
def e5 : Ent := ⟨286, [g [j 5, i 1, i 3, i 0]], [], (g [j 0, x .u64 (18446744073709551610)]), []⟩
def o5 : AObj := r [i 1, j 0, j 0, i 2, i 0, j 0] 163 3
/-- peloton/cartes.Of: 307 operations. -/
def e6 : Ent := ⟨220, [g [s 0 0 2 2], g [i 0, i 1]], [o0], (u [g [i 1, q 1 0 2], i 0]), [o5]⟩
/-- slices.Index[[]bool,bool]: 2206 operations. -/
def e7 : Ent := ⟨336, [q 0 0 200, f], [r (List.replicate 200 t) 4 1], (j 0), []⟩
/-- peloton/slot.Check: 11066 operations. -/
def e8 : Ent := ⟨180, [g [s 0 0 200 200, s 1 0 200 200, s 2 0 200 200]], [o1, o2, o3], (i 0), []⟩
/-- peloton/agenda.Check: 3444 operations. -/
def e9 : Ent := ⟨116, [g [s 0 0 200 200, s 1 0 200 200, s 2 0 200 200, ns, s 3 0 200 200]], [o1, o2, o3, o4], (i 0), []⟩
/-- peloton/clock.Check: 292 operations. -/
def e10 : Ent := ⟨63, [g [i 0, i 1, q 0 0 2, i 0, ns, s 1 0 200 200, s 2 0 200 200, s 3 0 200 200, ns, s 4 0 200 200, ns]], [o0, o1, o2, o3, o4], (i 0), []⟩
/-- peloton/field.place: 355 operations. -/
def e11 : Ent := ⟨285, [g [s 0 0 2 2], i 1], [o0], (u [i 0, i 0]), []⟩
/-- peloton/field.place: 353 operations. -/
def e12 : Ent := ⟨285, [g [s 0 0 2 2], i 2], [o0], (u [i 1, i 0]), []⟩
/-- peloton/slot.Check: 11066 operations. -/
def e13 : Ent := ⟨180, [g [q 0 0 200, q 1 0 200, q 2 0 200]], [o1, o2, o3], (i 0), []⟩
/-- peloton/agenda.Check: 3444 operations. -/
def e14 : Ent := ⟨116, [g [q 0 0 200, q 1 0 200, q 2 0 200, ns, q 3 0 200]], [o1, o2, o3, o4], (i 0), []⟩
/-- peloton/clock.Check: 292 operations. -/
def e15 : Ent := ⟨63, [g [i 0, i 1, q 0 0 2, i 0, ns, q 1 0 200, q 2 0 200, q 3 0 200, ns, q 4 0 200, ns]], [o0, o1, o2, o3, o4], (i 0), []⟩
/-- peloton/course.Meet: 261 operations. -/
def e16 : Ent := ⟨252, [g [i 2, i 6, j 0], g [i 1, i 0, i 2]], [], (u [g [i 2, i 1], i 0]), []⟩
/-- peloton/course.Fails: 202 operations. -/
def e17 : Ent := ⟨182, [g [i 2, i 6, j 0], g [i 1, i 0, i 2], g [i 0, i 1]], [], (u [g [i 2, i 1], t, i 0]), []⟩
/-- peloton/clock.when: 390 operations. -/
def e18 : Ent := ⟨117, [g [q 0 0 2], g [i 1, i 2], g [i 0, i 1]], [o0], (u [g [i 2, i 1], t, i 0]), []⟩
def o6 : AObj := r (n [1] ++ List.replicate 199 (i 0)) 3 1
def o7 : AObj := r ([t] ++ List.replicate 199 f) 4 1
def o8 : AObj := r (n [199, 198, 197, 196, 195, 194, 193, 192, 191, 190, 189, 188, 187, 186, 185, 184, 183, 182, 181, 180, 179, 178, 177, 176, 175, 174, 173, 172, 171, 170, 169, 168, 167, 166, 165, 164, 163, 162, 161, 160, 159, 158, 157, 156, 155, 154, 153, 152, 151, 150, 149, 148, 147, 146, 145, 144, 143, 142, 141, 140, 139, 138, 137, 136, 135, 134, 133, 132, 131, 130, 129, 128, 127, 126, 125, 124, 123, 122, 121, 120, 119, 118, 117, 116, 115, 114, 113, 112, 111, 110, 109, 108, 107, 106, 105, 104, 103, 102, 101, 100, 99, 98, 97, 96, 95, 94, 93, 92, 91, 90, 89, 88, 87, 86, 85, 84, 83, 82, 81, 80, 79, 78, 77, 76, 75, 74, 73, 72, 71, 70, 69, 68, 67, 66, 65, 64, 63, 62, 61, 60, 59, 58, 57, 56, 55, 54, 53, 52, 51, 50, 49, 48, 47, 46, 45, 44, 43, 42, 41, 40, 39, 38, 37, 36, 35, 34, 33, 32, 31, 30, 29, 28, 27, 26, 25, 24, 23, 22, 21, 20, 19, 18, 17, 16, 15, 14, 13, 12, 11, 10, 9, 8, 7, 6, 5, 4, 3, 2, 1]) 3 1
def o9 : AObj := r [i 2, i 1, i 0, i 0, i 1] 211 5
def o10 : AObj := r ([i 0] ++ List.replicate 199 (j 0)) 3 1
/-- peloton/agenda.Push: 297 operations. -/
def e19 : Ent := ⟨153, [g [q 0 0 200, q 1 0 200, q 2 0 200, ns, q 3 0 200], g [i 2, i 1], i 0], [o1, o2, o3, o4], (u [g [q 4 0 200, q 5 0 200, q 6 0 199, q 7 0 1, q 8 0 200], g [i 0, i 1], i 0]), [o6, o7, o8, o9, o10]⟩
/-- peloton/clock.Certify: 693 operations. -/
def e20 : Ent := ⟨85, [g [i 0, i 1, q 0 0 2, i 0, ns, q 1 0 200, q 2 0 200, q 3 0 200, ns, q 4 0 200, ns], g [i 1, i 2]], [o0, o1, o2, o3, o4], (u [g [i 0, i 1, q 5 0 2, i 1, q 6 0 1, q 7 0 200, q 8 0 200, q 9 0 199, q 10 0 1, q 11 0 200, q 12 0 1], i 0, i 0]), [o0, r [i 0, i 1, i 2] 149 3, o6, o7, o8, o9, o10, r [i 0, i 0, i 1] 209 3]⟩
/-- peloton/kheap.Renew: 547 operations. -/
def e21 : Ent := ⟨141, [g [i 0, i 1, q 0 0 2, i 0, ns, s 1 0 200 200, s 2 0 200 200, s 3 0 200 200, ns, s 4 0 200 200, ns], g [s 5 0 2 2], q 6 0 1], [o0, o1, o2, o3, o4, o0, r [i 1, i 2] 147 2], (u [g [i 0, i 1, q 7 0 2, i 1, q 8 0 1, q 9 0 200, q 10 0 200, q 11 0 199, q 12 0 1, q 13 0 200, q 14 0 1], i 0]), [o0, r [i 0, i 1, i 2] 149 3, o6, o7, o8, o9, o10, r [i 0, i 0, i 1] 209 3]⟩
/-- peloton/heater.Build: 217 operations. -/
def e22 : Ent := ⟨41, [g [s 0 0 2 2], g [i 0, i 1]], [o0], (u [g [i 0, i 1, q 1 0 2, i 1, q 2 0 1, q 3 0 200, q 4 0 200, q 5 0 199, q 6 0 1, q 7 0 200, q 8 0 1, i 1, q 9 0 2], i 0]), [o0, r [i 0, i 1, i 2] 149 3, o6, o7, o8, o9, o10, r [i 0, i 0, i 1] 209 3, o5]⟩
/-- peloton/course.sum: 205 operations. -/
def e23 : Ent := ⟨286, [g [i 6, i 1, j 2, i 0]], [], (g [i 0, x .u64 (6)]), []⟩
def o11 : AObj := r [i 2, i 6, j 0, i 1, i 0, i 2] 76 3
/-- peloton/field.sorted: 519 operations. -/
def e24 : Ent := ⟨84, [g [s 0 0 2 2], g [i 0, i 1]], [o0], (u [q 1 0 2, i 0]), [o11]⟩
/-- peloton/agenda.Push: 297 operations. -/
def e25 : Ent := ⟨153, [g [s 0 0 200 200, s 1 0 200 200, s 2 0 200 200, ns, s 3 0 200 200], g [i 2, i 1], i 0], [o1, o2, o3, o4], (u [g [q 4 0 200, q 5 0 200, q 6 0 199, q 7 0 1, q 8 0 200], g [i 0, i 1], i 0]), [o6, o7, o8, o9, o10]⟩
/-- peloton/clock.Certify: 693 operations. -/
def e26 : Ent := ⟨85, [g [i 0, i 1, q 0 0 2, i 0, ns, s 1 0 200 200, s 2 0 200 200, s 3 0 200 200, ns, s 4 0 200 200, ns], g [i 1, i 2]], [o0, o1, o2, o3, o4], (u [g [i 0, i 1, q 5 0 2, i 1, q 6 0 1, q 7 0 200, q 8 0 200, q 9 0 199, q 10 0 1, q 11 0 200, q 12 0 1], i 0, i 0]), [o0, r [i 0, i 1, i 2] 149 3, o6, o7, o8, o9, o10, r [i 0, i 0, i 1] 209 3]⟩
/-- peloton/driver.New: 305 operations. -/
def e27 : Ent := ⟨4, [x .u8 (3), g [i 0, i 1, s 0 0 2 2]], [o0], (u [g [x .u8 (3), i 0, i 0, ns, i 0, ns, ns, ns, ns, ns, ns, ns, ns, i 0, i 0, ns, i 0, ns, ns, ns, ns, ns, ns, ns, ns, ns, i 0, i 1, q 1 0 2, i 1, q 2 0 1, q 3 0 200, q 4 0 200, q 5 0 199, q 6 0 1, q 7 0 200, q 8 0 1, i 1, q 9 0 2, i 0, i 0, ns, i 0, ns, ns, ns, ns, ns, ns, ns, ns, i 0, i 1, q 10 0 2, i 1, q 11 0 1, q 12 0 200, q 13 0 200, q 14 0 199, q 15 0 1, q 16 0 200, q 17 0 1, s 18 0 2 2, s 19 0 1 1], i 0]), [o0, r [i 0, i 1, i 2] 149 3, o6, o7, o8, o9, o10, r [i 0, i 0, i 1] 209 3, o5, o0, r [i 0, i 1, i 2] 149 3, o6, o7, o8, o9, o10, r [i 0, i 0, i 1] 209 3, r [i 2, i 1] 3 1, r [i 0] 3 1]⟩
/-- peloton/pelotonref13.Same: 221 operations. -/
def e28 : Ent := ⟨47, [g [i 0, i 0, ns, i 0, ns, ns, ns, ns, ns, ns, ns, ns], g [i 0, i 0, ns, i 0, ns, ns, ns, ns, ns, ns, ns, ns]], [], t, []⟩
/-- peloton/pelotonref15.Same: 249 operations. -/
def e29 : Ent := ⟨48, [g [i 0, i 0, ns, i 0, ns, ns, ns, ns, ns, ns, ns, ns, ns], g [i 0, i 0, ns, i 0, ns, ns, ns, ns, ns, ns, ns, ns, ns]], [], t, []⟩
/-- peloton/pelotonref19.Same: 221 operations. -/
def e30 : Ent := ⟨50, [g [i 0, i 0, ns, i 0, ns, ns, ns, ns, ns, ns, ns, ns], g [i 0, i 0, ns, i 0, ns, ns, ns, ns, ns, ns, ns, ns]], [], t, []⟩
/-- peloton/pelotonref06.Check: 16405 operations. -/
def e31 : Ent := ⟨163, [g [q 0 0 200, q 1 0 200, q 2 0 199]], [o6, o7, o8], (i 0), []⟩
/-- peloton/pelotonref07.placed: 3895 operations. -/
def e32 : Ent := ⟨164, [g [q 0 0 200, q 1 0 200, q 2 0 199, q 3 0 1, q 4 0 200]], [o6, o7, o8, o9, o10], t, []⟩
/-- peloton/pelotonref02.Far: 278 operations. -/
def e33 : Ent := ⟨237, [g [i 1, i 0, i 2], g [i 2, i 6, j 0], g [i 0, i 1]], [], (j 0), []⟩
/-- peloton/pelotonref09.When: 235 operations. -/
def e34 : Ent := ⟨105, [g [q 0 0 2], g [i 1, i 2], g [i 0, i 1]], [o0], (u [g [i 2, i 1], t]), []⟩
/-- peloton/pelotonref09.Check: 753 operations. -/
def e35 : Ent := ⟨55, [g [i 0, i 1, q 0 0 2, i 1, q 1 0 1, q 2 0 200, q 3 0 200, q 4 0 199, q 5 0 1, q 6 0 200, q 7 0 1]], [o0, r [i 0, i 1, i 2] 149 3, o6, o7, o8, o9, o10, r [i 0, i 0, i 1] 209 3], (i 0), []⟩
/-- peloton/pelotonref02.Far: 233 operations. -/
def e36 : Ent := ⟨237, [g [i 2, i 6, j 0], g [i 1, i 0, i 2], g [i 0, i 1]], [], (i 1), []⟩
/-- peloton/pelotonref11.Made: 300 operations. -/
def e37 : Ent := ⟨159, [g [q 0 0 2], g [i 0, i 1]], [o0], (g [i 1, q 1 0 2]), [o5]⟩
/-- peloton/pelotonref17.Check: 399 operations. -/
def e38 : Ent := ⟨53, [g [i 0, i 1, q 0 0 2, i 1, q 1 0 1, q 2 0 200, q 3 0 200, q 4 0 199, q 5 0 1, q 6 0 200, q 7 0 1, i 1, q 8 0 2]], [o0, r [i 0, i 1, i 2] 149 3, o6, o7, o8, o9, o10, r [i 0, i 0, i 1] 209 3, o5], (i 0), []⟩
/-- peloton/pelotonref03.Ordered: 215 operations. -/
def e39 : Ent := ⟨57, [g [q 0 0 2], g [i 0, i 1]], [o0], (s 1 0 2 2), [r [i 2, i 1] 3 1]⟩
/-- peloton/pelotonref38.Check: 465 operations. -/
def e40 : Ent := ⟨6, [g [x .u8 (3), i 0, i 0, ns, i 0, ns, ns, ns, ns, ns, ns, ns, ns, i 0, i 0, ns, i 0, ns, ns, ns, ns, ns, ns, ns, ns, ns, i 0, i 1, q 0 0 2, i 1, q 1 0 1, q 2 0 200, q 3 0 200, q 4 0 199, q 5 0 1, q 6 0 200, q 7 0 1, i 1, q 8 0 2, i 0, i 0, ns, i 0, ns, ns, ns, ns, ns, ns, ns, ns, i 0, i 1, q 9 0 2, i 1, q 10 0 1, q 11 0 200, q 12 0 200, q 13 0 199, q 14 0 1, q 15 0 200, q 16 0 1, s 17 0 2 2, s 18 0 1 1]], [o0, r [i 0, i 1, i 2] 149 3, o6, o7, o8, o9, o10, r [i 0, i 0, i 1] 209 3, o5, o0, r [i 0, i 1, i 2] 149 3, o6, o7, o8, o9, o10, r [i 0, i 0, i 1] 209 3, r [i 2, i 1] 3 1, r [i 0] 3 1], (i 0), []⟩
/-- peloton/oracle.Check: 254 operations. -/
def e41 : Ent := ⟨17, [g [i 1, i 1, s 0 0 2 2]], [o0], (i 0), []⟩
/-- peloton/clock.New: 254 operations. -/
def e42 : Ent := ⟨44, [g [s 0 0 2 2], g [i 1, i 1]], [o0], (u [g [i 1, i 1, q 1 0 2, i 0, ns, s 2 0 200 200, s 3 0 200 200, s 4 0 200 200, ns, s 5 0 200 200, ns], i 0]), [o0, o1, o2, o3, o4]⟩
/-- peloton/cartes.timed: 208 operations. -/
def e43 : Ent := ⟨303, [g [s 0 0 2 2], g [i 1, i 1]], [o0], (i 0), []⟩
/-- peloton/course.sum: 205 operations. -/
def e44 : Ent := ⟨286, [g [j 5, i 1, i 3, i 1]], [], (g [j 0, x .u64 (18446744073709551613)]), []⟩
/-- peloton/cartes.Of: 315 operations. -/
def e45 : Ent := ⟨220, [g [s 0 0 2 2], g [i 1, i 1]], [o0], (u [g [i 1, q 1 0 2], i 0]), [o5]⟩
/-- peloton/clock.Check: 300 operations. -/
def e46 : Ent := ⟨63, [g [i 1, i 1, q 0 0 2, i 0, ns, s 1 0 200 200, s 2 0 200 200, s 3 0 200 200, ns, s 4 0 200 200, ns]], [o0, o1, o2, o3, o4], (i 0), []⟩
/-- peloton/clock.Check: 300 operations. -/
def e47 : Ent := ⟨63, [g [i 1, i 1, q 0 0 2, i 0, ns, q 1 0 200, q 2 0 200, q 3 0 200, ns, q 4 0 200, ns]], [o0, o1, o2, o3, o4], (i 0), []⟩
/-- peloton/course.Fails: 210 operations. -/
def e48 : Ent := ⟨182, [g [i 2, i 6, j 0], g [i 1, i 0, i 2], g [i 1, i 1]], [], (u [g [i 2, i 1], t, i 0]), []⟩
/-- peloton/clock.when: 390 operations. -/
def e49 : Ent := ⟨117, [g [q 0 0 2], g [i 1, i 2], g [i 1, i 1]], [o0], (u [g [i 2, i 1], t, i 0]), []⟩
/-- peloton/clock.Certify: 693 operations. -/
def e50 : Ent := ⟨85, [g [i 1, i 1, q 0 0 2, i 0, ns, q 1 0 200, q 2 0 200, q 3 0 200, ns, q 4 0 200, ns], g [i 1, i 2]], [o0, o1, o2, o3, o4], (u [g [i 1, i 1, q 5 0 2, i 1, q 6 0 1, q 7 0 200, q 8 0 200, q 9 0 199, q 10 0 1, q 11 0 200, q 12 0 1], i 0, i 0]), [o0, r [i 0, i 1, i 2] 149 3, o6, o7, o8, o9, o10, r [i 0, i 0, i 1] 209 3]⟩
/-- peloton/kheap.Renew: 547 operations. -/
def e51 : Ent := ⟨141, [g [i 1, i 1, q 0 0 2, i 0, ns, s 1 0 200 200, s 2 0 200 200, s 3 0 200 200, ns, s 4 0 200 200, ns], g [s 5 0 2 2], q 6 0 1], [o0, o1, o2, o3, o4, o0, r [i 1, i 2] 147 2], (u [g [i 1, i 1, q 7 0 2, i 1, q 8 0 1, q 9 0 200, q 10 0 200, q 11 0 199, q 12 0 1, q 13 0 200, q 14 0 1], i 0]), [o0, r [i 0, i 1, i 2] 149 3, o6, o7, o8, o9, o10, r [i 0, i 0, i 1] 209 3]⟩
/-- peloton/heater.Build: 217 operations. -/
def e52 : Ent := ⟨41, [g [s 0 0 2 2], g [i 1, i 1]], [o0], (u [g [i 1, i 1, q 1 0 2, i 1, q 2 0 1, q 3 0 200, q 4 0 200, q 5 0 199, q 6 0 1, q 7 0 200, q 8 0 1, i 1, q 9 0 2], i 0]), [o0, r [i 0, i 1, i 2] 149 3, o6, o7, o8, o9, o10, r [i 0, i 0, i 1] 209 3, o5]⟩
/-- peloton/course.sum: 205 operations. -/
def e53 : Ent := ⟨286, [g [i 6, i 1, j 2, i 1]], [], (g [i 0, x .u64 (3)]), []⟩
/-- peloton/field.sorted: 535 operations. -/
def e54 : Ent := ⟨84, [g [s 0 0 2 2], g [i 1, i 1]], [o0], (u [q 1 0 2, i 0]), [o11]⟩
/-- peloton/clock.Certify: 693 operations. -/
def e55 : Ent := ⟨85, [g [i 1, i 1, q 0 0 2, i 0, ns, s 1 0 200 200, s 2 0 200 200, s 3 0 200 200, ns, s 4 0 200 200, ns], g [i 1, i 2]], [o0, o1, o2, o3, o4], (u [g [i 1, i 1, q 5 0 2, i 1, q 6 0 1, q 7 0 200, q 8 0 200, q 9 0 199, q 10 0 1, q 11 0 200, q 12 0 1], i 0, i 0]), [o0, r [i 0, i 1, i 2] 149 3, o6, o7, o8, o9, o10, r [i 0, i 0, i 1] 209 3]⟩
/-- peloton/driver.New: 313 operations. -/
def e56 : Ent := ⟨4, [x .u8 (3), g [i 1, i 1, s 0 0 2 2]], [o0], (u [g [x .u8 (3), i 0, i 0, ns, i 0, ns, ns, ns, ns, ns, ns, ns, ns, i 0, i 0, ns, i 0, ns, ns, ns, ns, ns, ns, ns, ns, ns, i 1, i 1, q 1 0 2, i 1, q 2 0 1, q 3 0 200, q 4 0 200, q 5 0 199, q 6 0 1, q 7 0 200, q 8 0 1, i 1, q 9 0 2, i 0, i 0, ns, i 0, ns, ns, ns, ns, ns, ns, ns, ns, i 1, i 1, q 10 0 2, i 1, q 11 0 1, q 12 0 200, q 13 0 200, q 14 0 199, q 15 0 1, q 16 0 200, q 17 0 1, s 18 0 2 2, s 19 0 1 1], i 0]), [o0, r [i 0, i 1, i 2] 149 3, o6, o7, o8, o9, o10, r [i 0, i 0, i 1] 209 3, o5, o0, r [i 0, i 1, i 2] 149 3, o6, o7, o8, o9, o10, r [i 0, i 0, i 1] 209 3, r [i 2, i 1] 3 1, r [i 0] 3 1]⟩
/-- peloton/kheap.Renew: 360 operations. -/
def e57 : Ent := ⟨141, [g [i 0, i 1, ns, i 0, ns, s 0 0 200 200, s 1 0 200 200, s 2 0 200 200, ns, s 3 0 200 200, ns], g [ns], ns], [o1, o2, o3, o4], (u [g [i 0, i 1, ns, i 0, ns, q 4 0 200, q 5 0 200, q 6 0 200, ns, q 7 0 200, ns], i 0]), [o1, o2, o3, o4]⟩
/-- peloton/heater.Build: 275 operations. -/
def e58 : Ent := ⟨41, [g [ns], g [i 0, i 1]], [], (u [g [i 0, i 1, ns, i 0, ns, q 0 0 200, q 1 0 200, q 2 0 200, ns, q 3 0 200, ns, j 0, ns], i 0]), [o1, o2, o3, o4]⟩
/-- peloton/klist.Build: 297 operations. -/
def e59 : Ent := ⟨19, [g [ns], g [i 0, i 1]], [], (u [g [i 0, i 1, ns, i 0, ns, s 0 0 200 200, s 1 0 200 200, s 2 0 200 200, ns, s 3 0 200 200, ns, s 4 0 0 0, s 5 0 0 0], i 0]), [o1, o2, o3, o4, r [] 3 1, r [] 3 1]⟩
/-- peloton/driver.New: 252 operations. -/
def e60 : Ent := ⟨4, [x .u8 (3), g [i 0, i 1, ns]], [], (u [g [x .u8 (3), i 0, i 0, ns, i 0, ns, ns, ns, ns, ns, ns, ns, ns, i 0, i 0, ns, i 0, ns, ns, ns, ns, ns, ns, ns, ns, ns, i 0, i 1, ns, i 0, ns, q 0 0 200, q 1 0 200, q 2 0 200, ns, q 3 0 200, ns, j 0, ns, i 0, i 0, ns, i 0, ns, ns, ns, ns, ns, ns, ns, ns, i 0, i 1, ns, i 0, ns, s 4 0 200 200, s 5 0 200 200, s 6 0 200 200, ns, s 7 0 200 200, ns, s 8 0 0 0, s 9 0 0 0], i 0]), [o1, o2, o3, o4, o1, o2, o3, o4, r [] 3 1, r [] 3 1]⟩
/-- peloton/choose.Check: 359 operations. -/
def e61 : Ent := ⟨61, [g [x .u8 (0), i 0, i 0, ns, i 0, ns, ns, ns, ns, ns, ns, ns, ns, i 0, i 0, ns, i 0, ns, ns, ns, ns, ns, ns, ns, ns, ns, i 0, i 0, ns, i 0, ns, ns, ns, ns, ns, ns, ns, i 0, ns, i 0, i 0, ns, i 0, ns, ns, ns, ns, ns, ns, ns, ns]], [], (i 8), []⟩
/-- peloton/slot.Check: 11031 operations. -/
def e62 : Ent := ⟨180, [g [q 0 0 200, q 1 0 200, q 2 0 199]], [o6, o7, o8], (i 0), []⟩
/-- peloton/agenda.Check: 3553 operations. -/
def e63 : Ent := ⟨116, [g [q 0 0 200, q 1 0 200, q 2 0 199, q 3 0 1, q 4 0 200]], [o6, o7, o8, o9, o10], (i 0), []⟩
/-- peloton/clock.Check: 438 operations. -/
def e64 : Ent := ⟨63, [g [i 0, i 1, q 0 0 2, i 1, q 1 0 1, q 2 0 200, q 3 0 200, q 4 0 199, q 5 0 1, q 6 0 200, q 7 0 1]], [o0, r [i 0, i 1, i 2] 149 3, o6, o7, o8, o9, o10, r [i 0, i 0, i 1] 209 3], (i 0), []⟩
/-- peloton/cartes.timed: 200 operations. -/
def e65 : Ent := ⟨303, [g [q 0 0 2], g [i 0, i 1]], [o0], (i 0), []⟩
/-- peloton/cartes.Of: 307 operations. -/
def e66 : Ent := ⟨220, [g [q 0 0 2], g [i 0, i 1]], [o0], (u [g [i 1, q 1 0 2], i 0]), [o5]⟩
/-- peloton/heater.Check: 320 operations. -/
def e67 : Ent := ⟨113, [g [i 0, i 1, q 0 0 2, i 1, q 1 0 1, q 2 0 200, q 3 0 200, q 4 0 199, q 5 0 1, q 6 0 200, q 7 0 1, i 1, q 8 0 2]], [o0, r [i 0, i 1, i 2] 149 3, o6, o7, o8, o9, o10, r [i 0, i 0, i 1] 209 3, o5], (i 0), []⟩
/-- peloton/choose.Check: 392 operations. -/
def e68 : Ent := ⟨61, [g [x .u8 (3), i 0, i 0, ns, i 0, ns, ns, ns, ns, ns, ns, ns, ns, i 0, i 0, ns, i 0, ns, ns, ns, ns, ns, ns, ns, ns, ns, i 0, i 1, q 0 0 2, i 1, q 1 0 1, q 2 0 200, q 3 0 200, q 4 0 199, q 5 0 1, q 6 0 200, q 7 0 1, i 1, q 8 0 2, i 0, i 0, ns, i 0, ns, ns, ns, ns, ns, ns, ns, ns]], [o0, r [i 0, i 1, i 2] 149 3, o6, o7, o8, o9, o10, r [i 0, i 0, i 1] 209 3, o5], (i 0), []⟩
/-- peloton/driver.Run: 206 operations. -/
def e69 : Ent := ⟨10, [g [x .u8 (3), i 0, i 0, ns, i 0, ns, ns, ns, ns, ns, ns, ns, ns, i 0, i 0, ns, i 0, ns, ns, ns, ns, ns, ns, ns, ns, ns, i 0, i 1, q 0 0 2, i 1, q 1 0 1, q 2 0 200, q 3 0 200, q 4 0 199, q 5 0 1, q 6 0 200, q 7 0 1, i 1, q 8 0 2, i 0, i 0, ns, i 0, ns, ns, ns, ns, ns, ns, ns, ns, i 0, i 0, ns, i 0, ns, ns, ns, ns, ns, ns, ns, ns, ns], s 9 0 1 1], [o0, r [i 0, i 1, i 2] 149 3, o6, o7, o8, o9, o10, r [i 0, i 0, i 1] 209 3, o5, r ([x .u8 (0)] ++ n [0, 0, 0, 0, 0, 0]) 78 7], (u [g [x .u8 (0), i 0, i 0, ns, i 0, ns, ns, ns, ns, ns, ns, ns, ns, i 0, i 0, ns, i 0, ns, ns, ns, ns, ns, ns, ns, ns, ns, i 0, i 0, ns, i 0, ns, ns, ns, ns, ns, ns, ns, i 0, ns, i 0, i 0, ns, i 0, ns, ns, ns, ns, ns, ns, ns, ns, i 0, i 0, ns, i 0, ns, ns, ns, ns, ns, ns, ns, ns, ns], ns, i 8]), []⟩
/-- peloton/driver.Run: 206 operations. -/
def e70 : Ent := ⟨10, [g [x .u8 (3), i 0, i 0, ns, i 0, ns, ns, ns, ns, ns, ns, ns, ns, i 0, i 0, ns, i 0, ns, ns, ns, ns, ns, ns, ns, ns, ns, i 0, i 1, q 0 0 2, i 1, q 1 0 1, q 2 0 200, q 3 0 200, q 4 0 199, q 5 0 1, q 6 0 200, q 7 0 1, i 1, q 8 0 2, i 0, i 0, ns, i 0, ns, ns, ns, ns, ns, ns, ns, ns, i 0, i 0, ns, i 0, ns, ns, ns, ns, ns, ns, ns, ns, ns], s 9 0 121 121], [o0, r [i 0, i 1, i 2] 149 3, o6, o7, o8, o9, o10, r [i 0, i 0, i 1] 209 3, o5, r ([x .u8 (0)] ++ n [0, 0, 0, 0, 0, 0] ++ [x .u8 (0)] ++ n [0, 0, 0, 0, 0, 0] ++ [x .u8 (0)] ++ n [0, 0, 0, 0, 0, 0] ++ [x .u8 (0)] ++ n [0, 0, 0, 0, 0, 0] ++ [x .u8 (0)] ++ n [0, 0, 0, 0, 0, 0] ++ [x .u8 (0)] ++ n [0, 0, 0, 0, 0, 0] ++ [x .u8 (0)] ++ n [0, 0, 0, 0, 0, 0] ++ [x .u8 (0)] ++ n [0, 0, 0, 0, 0, 0] ++ [x .u8 (0)] ++ n [0, 0, 0, 0, 0, 0] ++ [x .u8 (0)] ++ n [0, 0, 0, 0, 0, 0] ++ [x .u8 (0)] ++ n [0, 0, 0, 0, 0, 0] ++ [x .u8 (0)] ++ n [0, 0, 0, 0, 0, 0] ++ [x .u8 (0)] ++ n [0, 0, 0, 0, 0, 0] ++ [x .u8 (0)] ++ n [0, 0, 0, 0, 0, 0] ++ [x .u8 (0)] ++ n [0, 0, 0, 0, 0, 0] ++ [x .u8 (0)] ++ n [0, 0, 0, 0, 0, 0] ++ [x .u8 (0)] ++ n [0, 0, 0, 0, 0, 0] ++ [x .u8 (0)] ++ n [0, 0, 0, 0, 0, 0] ++ [x .u8 (0)] ++ n [0, 0, 0, 0, 0, 0] ++ [x .u8 (0)] ++ n [0, 0, 0, 0, 0, 0] ++ [x .u8 (0)] ++ n [0, 0, 0, 0, 0, 0] ++ [x .u8 (0)] ++ n [0, 0, 0, 0, 0, 0] ++ [x .u8 (0)] ++ n [0, 0, 0, 0, 0, 0] ++ [x .u8 (0)] ++ n [0, 0, 0, 0, 0, 0] ++ [x .u8 (0)] ++ n [0, 0, 0, 0, 0, 0] ++ [x .u8 (0)] ++ n [0, 0, 0, 0, 0, 0] ++ [x .u8 (0)] ++ n [0, 0, 0, 0, 0, 0] ++ [x .u8 (0)] ++ n [0, 0, 0, 0, 0, 0] ++ [x .u8 (0)] ++ n [0, 0, 0, 0, 0, 0] ++ [x .u8 (0)] ++ n [0, 0, 0, 0, 0, 0] ++ [x .u8 (0)] ++ n [0, 0, 0, 0, 0, 0] ++ [x .u8 (0)] ++ n [0, 0, 0, 0, 0, 0] ++ [x .u8 (0)] ++ n [0, 0, 0, 0, 0, 0] ++ [x .u8 (0)] ++ n [0, 0, 0, 0, 0, 0] ++ [x .u8 (0)] ++ n [0, 0, 0, 0, 0, 0] ++ [x .u8 (0)] ++ n [0, 0, 0, 0, 0, 0] ++ [x .u8 (0)] ++ n [0, 0, 0, 0, 0, 0] ++ [x .u8 (0)] ++ n [0, 0, 0, 0, 0, 0] ++ [x .u8 (0)] ++ n [0, 0, 0, 0, 0, 0] ++ [x .u8 (0)] ++ n [0, 0, 0, 0, 0, 0] ++ [x .u8 (0)] ++ n [0, 0, 0, 0, 0, 0] ++ [x .u8 (0)] ++ n [0, 0, 0, 0, 0, 0] ++ [x .u8 (0)] ++ n [0, 0, 0, 0, 0, 0] ++ [x .u8 (0)] ++ n [0, 0, 0, 0, 0, 0] ++ [x .u8 (0)] ++ n [0, 0, 0, 0, 0, 0] ++ [x .u8 (0)] ++ n [0, 0, 0, 0, 0, 0] ++ [x .u8 (0)] ++ n [0, 0, 0, 0, 0, 0] ++ [x .u8 (0)] ++ n [0, 0, 0, 0, 0, 0] ++ [x .u8 (0)] ++ n [0, 0, 0, 0, 0, 0] ++ [x .u8 (0)] ++ n [0, 0, 0, 0, 0, 0] ++ [x .u8 (0)] ++ n [0, 0, 0, 0, 0, 0] ++ [x .u8 (0)] ++ n [0, 0, 0, 0, 0, 0] ++ [x .u8 (0)] ++ n [0, 0, 0, 0, 0, 0] ++ [x .u8 (0)] ++ n [0, 0, 0, 0, 0, 0] ++ [x .u8 (0)] ++ n [0, 0, 0, 0, 0, 0] ++ [x .u8 (0)] ++ n [0, 0, 0, 0, 0, 0] ++ [x .u8 (0)] ++ n [0, 0, 0, 0, 0, 0] ++ [x .u8 (0)] ++ n [0, 0, 0, 0, 0, 0] ++ [x .u8 (0)] ++ n [0, 0, 0, 0, 0, 0] ++ [x .u8 (0)] ++ n [0, 0, 0, 0, 0, 0] ++ [x .u8 (0)] ++ n [0, 0, 0, 0, 0, 0] ++ [x .u8 (0)] ++ n [0, 0, 0, 0, 0, 0] ++ [x .u8 (0)] ++ n [0, 0, 0, 0, 0, 0] ++ [x .u8 (0)] ++ n [0, 0, 0, 0, 0, 0] ++ [x .u8 (0)] ++ n [0, 0, 0, 0, 0, 0] ++ [x .u8 (0)] ++ n [0, 0, 0, 0, 0, 0] ++ [x .u8 (0)] ++ n [0, 0, 0, 0, 0, 0] ++ [x .u8 (0)] ++ n [0, 0, 0, 0, 0, 0] ++ [x .u8 (0)] ++ n [0, 0, 0, 0, 0, 0] ++ [x .u8 (0)] ++ n [0, 0, 0, 0, 0, 0] ++ [x .u8 (0)] ++ n [0, 0, 0, 0, 0, 0] ++ [x .u8 (0)] ++ n [0, 0, 0, 0, 0, 0] ++ [x .u8 (0)] ++ n [0, 0, 0, 0, 0, 0] ++ [x .u8 (0)] ++ n [0, 0, 0, 0, 0, 0] ++ [x .u8 (0)] ++ n [0, 0, 0, 0, 0, 0] ++ [x .u8 (0)] ++ n [0, 0, 0, 0, 0, 0] ++ [x .u8 (0)] ++ n [0, 0, 0, 0, 0, 0] ++ [x .u8 (0)] ++ n [0, 0, 0, 0, 0, 0] ++ [x .u8 (0)] ++ n [0, 0, 0, 0, 0, 0] ++ [x .u8 (0)] ++ n [0, 0, 0, 0, 0, 0] ++ [x .u8 (0)] ++ n [0, 0, 0, 0, 0, 0] ++ [x .u8 (0)] ++ n [0, 0, 0, 0, 0, 0] ++ [x .u8 (0)] ++ n [0, 0, 0, 0, 0, 0] ++ [x .u8 (0)] ++ n [0, 0, 0, 0, 0, 0] ++ [x .u8 (0)] ++ n [0, 0, 0, 0, 0, 0] ++ [x .u8 (0)] ++ n [0, 0, 0, 0, 0, 0] ++ [x .u8 (0)] ++ n [0, 0, 0, 0, 0, 0] ++ [x .u8 (0)] ++ n [0, 0, 0, 0, 0, 0] ++ [x .u8 (0)] ++ n [0, 0, 0, 0, 0, 0] ++ [x .u8 (0)] ++ n [0, 0, 0, 0, 0, 0] ++ [x .u8 (0)] ++ n [0, 0, 0, 0, 0, 0] ++ [x .u8 (0)] ++ n [0, 0, 0, 0, 0, 0] ++ [x .u8 (0)] ++ n [0, 0, 0, 0, 0, 0] ++ [x .u8 (0)] ++ n [0, 0, 0, 0, 0, 0] ++ [x .u8 (0)] ++ n [0, 0, 0, 0, 0, 0] ++ [x .u8 (0)] ++ n [0, 0, 0, 0, 0, 0] ++ [x .u8 (0)] ++ n [0, 0, 0, 0, 0, 0] ++ [x .u8 (0)] ++ n [0, 0, 0, 0, 0, 0] ++ [x .u8 (0)] ++ n [0, 0, 0, 0, 0, 0] ++ [x .u8 (0)] ++ n [0, 0, 0, 0, 0, 0] ++ [x .u8 (0)] ++ n [0, 0, 0, 0, 0, 0] ++ [x .u8 (0)] ++ n [0, 0, 0, 0, 0, 0] ++ [x .u8 (0)] ++ n [0, 0, 0, 0, 0, 0] ++ [x .u8 (0)] ++ n [0, 0, 0, 0, 0, 0] ++ [x .u8 (0)] ++ n [0, 0, 0, 0, 0, 0] ++ [x .u8 (0)] ++ n [0, 0, 0, 0, 0, 0] ++ [x .u8 (0)] ++ n [0, 0, 0, 0, 0, 0] ++ [x .u8 (0)] ++ n [0, 0, 0, 0, 0, 0] ++ [x .u8 (0)] ++ n [0, 0, 0, 0, 0, 0] ++ [x .u8 (0)] ++ n [0, 0, 0, 0, 0, 0] ++ [x .u8 (0)] ++ n [0, 0, 0, 0, 0, 0] ++ [x .u8 (0)] ++ n [0, 0, 0, 0, 0, 0] ++ [x .u8 (0)] ++ n [0, 0, 0, 0, 0, 0] ++ [x .u8 (0)] ++ n [0, 0, 0, 0, 0, 0] ++ [x .u8 (0)] ++ n [0, 0, 0, 0, 0, 0] ++ [x .u8 (0)] ++ n [0, 0, 0, 0, 0, 0] ++ [x .u8 (0)] ++ n [0, 0, 0, 0, 0, 0] ++ [x .u8 (0)] ++ n [0, 0, 0, 0, 0, 0] ++ [x .u8 (0)] ++ n [0, 0, 0, 0, 0, 0] ++ [x .u8 (0)] ++ n [0, 0, 0, 0, 0, 0] ++ [x .u8 (0)] ++ n [0, 0, 0, 0, 0, 0]) 78 7], (u [g [x .u8 (0), i 0, i 0, ns, i 0, ns, ns, ns, ns, ns, ns, ns, ns, i 0, i 0, ns, i 0, ns, ns, ns, ns, ns, ns, ns, ns, ns, i 0, i 0, ns, i 0, ns, ns, ns, ns, ns, ns, ns, i 0, ns, i 0, i 0, ns, i 0, ns, ns, ns, ns, ns, ns, ns, ns, i 0, i 0, ns, i 0, ns, ns, ns, ns, ns, ns, ns, ns, ns], ns, i 8]), []⟩
/-- peloton/driver.Turn: 204 operations. -/
def e71 : Ent := ⟨11, [g [x .u8 (3), i 0, i 0, ns, i 0, ns, ns, ns, ns, ns, ns, ns, ns, i 0, i 0, ns, i 0, ns, ns, ns, ns, ns, ns, ns, ns, ns, i 0, i 1, q 0 0 2, i 1, q 1 0 1, q 2 0 200, q 3 0 200, q 4 0 199, q 5 0 1, q 6 0 200, q 7 0 1, i 1, q 8 0 2, i 0, i 0, ns, i 0, ns, ns, ns, ns, ns, ns, ns, ns, i 0, i 0, ns, i 0, ns, ns, ns, ns, ns, ns, ns, ns, ns], x .u8 (0)], [o0, r [i 0, i 1, i 2] 149 3, o6, o7, o8, o9, o10, r [i 0, i 0, i 1] 209 3, o5], (u [g [x .u8 (0), i 0, i 0, ns, i 0, ns, ns, ns, ns, ns, ns, ns, ns, i 0, i 0, ns, i 0, ns, ns, ns, ns, ns, ns, ns, ns, ns, i 0, i 0, ns, i 0, ns, ns, ns, ns, ns, ns, ns, i 0, ns, i 0, i 0, ns, i 0, ns, ns, ns, ns, ns, ns, ns, ns, i 0, i 0, ns, i 0, ns, ns, ns, ns, ns, ns, ns, ns, ns], i 8]), []⟩
/-- peloton/clock.Check: 446 operations. -/
def e72 : Ent := ⟨63, [g [i 1, i 1, q 0 0 2, i 1, q 1 0 1, q 2 0 200, q 3 0 200, q 4 0 199, q 5 0 1, q 6 0 200, q 7 0 1]], [o0, r [i 0, i 1, i 2] 149 3, o6, o7, o8, o9, o10, r [i 0, i 0, i 1] 209 3], (i 0), []⟩
/-- peloton/field.sorted: 535 operations. -/
def e73 : Ent := ⟨84, [g [q 0 0 2], g [i 1, i 1]], [o0], (u [q 1 0 2, i 0]), [o11]⟩
/-- peloton/cert.find: 221 operations. -/
def e74 : Ent := ⟨118, [g [i 1, q 0 0 1], i 0], [r [i 0, i 1, i 2] 149 3], (u [i 0, i 0]), []⟩
/-- peloton/klist.Check: 204 operations. -/
def e75 : Ent := ⟨26, [g [i 1, i 1, q 0 0 2, i 1, q 1 0 1, q 2 0 200, q 3 0 200, q 4 0 199, q 5 0 1, q 6 0 200, q 7 0 1, s 8 0 2 2, s 9 0 1 1]], [o0, r [i 0, i 1, i 2] 149 3, o6, o7, o8, o9, o10, r [i 0, i 0, i 1] 209 3, r [i 2, i 1] 3 1, r [i 0] 3 1], (i 0), []⟩
/-- peloton/heater.Check: 357 operations. -/
def e76 : Ent := ⟨113, [g [i 0, i 1, ns, i 0, ns, q 0 0 200, q 1 0 200, q 2 0 200, ns, q 3 0 200, ns, j 0, ns]], [o1, o2, o3, o4], (i 0), []⟩
/-- peloton/choose.Check: 392 operations. -/
def e77 : Ent := ⟨61, [g [x .u8 (3), i 0, i 0, ns, i 0, ns, ns, ns, ns, ns, ns, ns, ns, i 0, i 0, ns, i 0, ns, ns, ns, ns, ns, ns, ns, ns, ns, i 0, i 1, ns, i 0, ns, q 0 0 200, q 1 0 200, q 2 0 200, ns, q 3 0 200, ns, j 0, ns, i 0, i 0, ns, i 0, ns, ns, ns, ns, ns, ns, ns, ns]], [o1, o2, o3, o4], (i 0), []⟩
/-- peloton/field.sorted: 519 operations. -/
def e78 : Ent := ⟨84, [g [q 0 0 2], g [i 0, i 1]], [o0], (u [q 1 0 2, i 0]), [o11]⟩
/-- peloton/klist.Check: 204 operations. -/
def e79 : Ent := ⟨26, [g [i 0, i 1, q 0 0 2, i 1, q 1 0 1, q 2 0 200, q 3 0 200, q 4 0 199, q 5 0 1, q 6 0 200, q 7 0 1, s 8 0 2 2, s 9 0 1 1]], [o0, r [i 0, i 1, i 2] 149 3, o6, o7, o8, o9, o10, r [i 0, i 0, i 1] 209 3, r [i 2, i 1] 3 1, r [i 0] 3 1], (i 0), []⟩
/-- peloton/choose.Check: 288 operations. -/
def e80 : Ent := ⟨61, [g [x .u8 (1), i 0, i 0, ns, i 0, ns, ns, ns, ns, ns, ns, ns, ns, i 0, i 0, ns, i 0, ns, ns, ns, ns, ns, ns, ns, ns, ns, i 0, i 1, q 0 0 2, i 1, q 1 0 1, q 2 0 200, q 3 0 200, q 4 0 199, q 5 0 1, q 6 0 200, q 7 0 1, i 1, q 8 0 2, i 0, i 0, ns, i 0, ns, ns, ns, ns, ns, ns, ns, ns]], [o0, r [i 0, i 1, i 2] 149 3, o6, o7, o8, o9, o10, r [i 0, i 0, i 1] 209 3, o5], (i 8), []⟩
/-- peloton/driver.Model: 200 operations. -/
def e81 : Ent := ⟨8, [g [x .u8 (3), i 0, i 0, ns, i 0, ns, ns, ns, ns, ns, ns, ns, ns, i 0, i 0, ns, i 0, ns, ns, ns, ns, ns, ns, ns, ns, ns, i 0, i 1, q 0 0 2, i 1, q 1 0 1, q 2 0 200, q 3 0 200, q 4 0 199, q 5 0 1, q 6 0 200, q 7 0 1, i 1, q 8 0 2, i 0, i 0, ns, i 0, ns, ns, ns, ns, ns, ns, ns, ns, i 0, i 1, q 9 0 2, i 1, q 10 0 1, q 11 0 200, q 12 0 200, q 13 0 199, q 14 0 1, q 15 0 200, q 16 0 1, s 17 0 2 2, s 18 0 1 1]], [o0, r [i 0, i 1, i 2] 149 3, o6, o7, o8, o9, o10, r [i 0, i 0, i 1] 209 3, o5, o0, r [i 0, i 1, i 2] 149 3, o6, o7, o8, o9, o10, r [i 0, i 0, i 1] 209 3, r [i 2, i 1] 3 1, r [i 0] 3 1], (u [g [i 0, i 1, q 19 0 2], i 0]), [o0]⟩
/-- peloton/driver.copied: 624 operations. -/
def e82 : Ent := ⟨30, [g [x .u8 (3), i 0, i 0, ns, i 0, ns, ns, ns, ns, ns, ns, ns, ns, i 0, i 0, ns, i 0, ns, ns, ns, ns, ns, ns, ns, ns, ns, i 0, i 1, q 0 0 2, i 1, q 1 0 1, q 2 0 200, q 3 0 200, q 4 0 199, q 5 0 1, q 6 0 200, q 7 0 1, i 1, q 8 0 2, i 0, i 0, ns, i 0, ns, ns, ns, ns, ns, ns, ns, ns, i 0, i 1, q 9 0 2, i 1, q 10 0 1, q 11 0 200, q 12 0 200, q 13 0 199, q 14 0 1, q 15 0 200, q 16 0 1, s 17 0 2 2, s 18 0 1 1]], [o0, r [i 0, i 1, i 2] 149 3, o6, o7, o8, o9, o10, r [i 0, i 0, i 1] 209 3, o5, o0, r [i 0, i 1, i 2] 149 3, o6, o7, o8, o9, o10, r [i 0, i 0, i 1] 209 3, r [i 2, i 1] 3 1, r [i 0] 3 1], (g [x .u8 (3), i 0, i 0, ns, i 0, ns, ns, ns, ns, ns, ns, ns, ns, i 0, i 0, ns, i 0, ns, ns, ns, ns, ns, ns, ns, ns, ns, i 0, i 1, q 19 0 2, i 1, q 20 0 1, q 21 0 200, q 22 0 200, q 23 0 199, q 24 0 1, q 25 0 200, q 26 0 1, i 1, q 27 0 2, i 0, i 0, ns, i 0, ns, ns, ns, ns, ns, ns, ns, ns, i 0, i 1, q 28 0 2, i 1, q 29 0 1, q 30 0 200, q 31 0 200, q 32 0 199, q 33 0 1, q 34 0 200, q 35 0 1, q 36 0 2, q 37 0 1]), [o0, r [i 0, i 1, i 2] 149 3, o6, o7, o8, o9, o10, r [i 0, i 0, i 1] 209 3, o5, o0, r [i 0, i 1, i 2] 149 3, o6, o7, o8, o9, o10, r [i 0, i 0, i 1] 209 3, r [i 2, i 1] 3 1, r [i 0] 3 1]⟩
/-- peloton/oracle.Check: 246 operations. -/
def e83 : Ent := ⟨17, [g [i 0, i 1, q 0 0 2]], [o0], (i 0), []⟩
/-- peloton/driver.Run: 11439 operations. -/
def e84 : Ent := ⟨10, [g [x .u8 (3), i 0, i 0, ns, i 0, ns, ns, ns, ns, ns, ns, ns, ns, i 0, i 0, ns, i 0, ns, ns, ns, ns, ns, ns, ns, ns, ns, i 0, i 1, q 0 0 2, i 1, q 1 0 1, q 2 0 200, q 3 0 200, q 4 0 199, q 5 0 1, q 6 0 200, q 7 0 1, i 1, q 8 0 2, i 0, i 0, ns, i 0, ns, ns, ns, ns, ns, ns, ns, ns, i 0, i 1, q 9 0 2, i 1, q 10 0 1, q 11 0 200, q 12 0 200, q 13 0 199, q 14 0 1, q 15 0 200, q 16 0 1, s 17 0 2 2, s 18 0 1 1], s 19 0 120 120], [o0, r [i 0, i 1, i 2] 149 3, o6, o7, o8, o9, o10, r [i 0, i 0, i 1] 209 3, o5, o0, r [i 0, i 1, i 2] 149 3, o6, o7, o8, o9, o10, r [i 0, i 0, i 1] 209 3, r [i 2, i 1] 3 1, r [i 0] 3 1, r ([x .u8 (0)] ++ n [0, 0, 0, 0, 0, 0] ++ [x .u8 (0)] ++ n [0, 0, 0, 0, 0, 0] ++ [x .u8 (0)] ++ n [0, 0, 0, 0, 0, 0] ++ [x .u8 (0)] ++ n [0, 0, 0, 0, 0, 0] ++ [x .u8 (0)] ++ n [0, 0, 0, 0, 0, 0] ++ [x .u8 (0)] ++ n [0, 0, 0, 0, 0, 0] ++ [x .u8 (0)] ++ n [0, 0, 0, 0, 0, 0] ++ [x .u8 (0)] ++ n [0, 0, 0, 0, 0, 0] ++ [x .u8 (0)] ++ n [0, 0, 0, 0, 0, 0] ++ [x .u8 (0)] ++ n [0, 0, 0, 0, 0, 0] ++ [x .u8 (0)] ++ n [0, 0, 0, 0, 0, 0] ++ [x .u8 (0)] ++ n [0, 0, 0, 0, 0, 0] ++ [x .u8 (0)] ++ n [0, 0, 0, 0, 0, 0] ++ [x .u8 (0)] ++ n [0, 0, 0, 0, 0, 0] ++ [x .u8 (0)] ++ n [0, 0, 0, 0, 0, 0] ++ [x .u8 (0)] ++ n [0, 0, 0, 0, 0, 0] ++ [x .u8 (0)] ++ n [0, 0, 0, 0, 0, 0] ++ [x .u8 (0)] ++ n [0, 0, 0, 0, 0, 0] ++ [x .u8 (0)] ++ n [0, 0, 0, 0, 0, 0] ++ [x .u8 (0)] ++ n [0, 0, 0, 0, 0, 0] ++ [x .u8 (0)] ++ n [0, 0, 0, 0, 0, 0] ++ [x .u8 (0)] ++ n [0, 0, 0, 0, 0, 0] ++ [x .u8 (0)] ++ n [0, 0, 0, 0, 0, 0] ++ [x .u8 (0)] ++ n [0, 0, 0, 0, 0, 0] ++ [x .u8 (0)] ++ n [0, 0, 0, 0, 0, 0] ++ [x .u8 (0)] ++ n [0, 0, 0, 0, 0, 0] ++ [x .u8 (0)] ++ n [0, 0, 0, 0, 0, 0] ++ [x .u8 (0)] ++ n [0, 0, 0, 0, 0, 0] ++ [x .u8 (0)] ++ n [0, 0, 0, 0, 0, 0] ++ [x .u8 (0)] ++ n [0, 0, 0, 0, 0, 0] ++ [x .u8 (0)] ++ n [0, 0, 0, 0, 0, 0] ++ [x .u8 (0)] ++ n [0, 0, 0, 0, 0, 0] ++ [x .u8 (0)] ++ n [0, 0, 0, 0, 0, 0] ++ [x .u8 (0)] ++ n [0, 0, 0, 0, 0, 0] ++ [x .u8 (0)] ++ n [0, 0, 0, 0, 0, 0] ++ [x .u8 (0)] ++ n [0, 0, 0, 0, 0, 0] ++ [x .u8 (0)] ++ n [0, 0, 0, 0, 0, 0] ++ [x .u8 (0)] ++ n [0, 0, 0, 0, 0, 0] ++ [x .u8 (0)] ++ n [0, 0, 0, 0, 0, 0] ++ [x .u8 (0)] ++ n [0, 0, 0, 0, 0, 0] ++ [x .u8 (0)] ++ n [0, 0, 0, 0, 0, 0] ++ [x .u8 (0)] ++ n [0, 0, 0, 0, 0, 0] ++ [x .u8 (0)] ++ n [0, 0, 0, 0, 0, 0] ++ [x .u8 (0)] ++ n [0, 0, 0, 0, 0, 0] ++ [x .u8 (0)] ++ n [0, 0, 0, 0, 0, 0] ++ [x .u8 (0)] ++ n [0, 0, 0, 0, 0, 0] ++ [x .u8 (0)] ++ n [0, 0, 0, 0, 0, 0] ++ [x .u8 (0)] ++ n [0, 0, 0, 0, 0, 0] ++ [x .u8 (0)] ++ n [0, 0, 0, 0, 0, 0] ++ [x .u8 (0)] ++ n [0, 0, 0, 0, 0, 0] ++ [x .u8 (0)] ++ n [0, 0, 0, 0, 0, 0] ++ [x .u8 (0)] ++ n [0, 0, 0, 0, 0, 0] ++ [x .u8 (0)] ++ n [0, 0, 0, 0, 0, 0] ++ [x .u8 (0)] ++ n [0, 0, 0, 0, 0, 0] ++ [x .u8 (0)] ++ n [0, 0, 0, 0, 0, 0] ++ [x .u8 (0)] ++ n [0, 0, 0, 0, 0, 0] ++ [x .u8 (0)] ++ n [0, 0, 0, 0, 0, 0] ++ [x .u8 (0)] ++ n [0, 0, 0, 0, 0, 0] ++ [x .u8 (0)] ++ n [0, 0, 0, 0, 0, 0] ++ [x .u8 (0)] ++ n [0, 0, 0, 0, 0, 0] ++ [x .u8 (0)] ++ n [0, 0, 0, 0, 0, 0] ++ [x .u8 (0)] ++ n [0, 0, 0, 0, 0, 0] ++ [x .u8 (0)] ++ n [0, 0, 0, 0, 0, 0] ++ [x .u8 (0)] ++ n [0, 0, 0, 0, 0, 0] ++ [x .u8 (0)] ++ n [0, 0, 0, 0, 0, 0] ++ [x .u8 (0)] ++ n [0, 0, 0, 0, 0, 0] ++ [x .u8 (0)] ++ n [0, 0, 0, 0, 0, 0] ++ [x .u8 (0)] ++ n [0, 0, 0, 0, 0, 0] ++ [x .u8 (0)] ++ n [0, 0, 0, 0, 0, 0] ++ [x .u8 (0)] ++ n [0, 0, 0, 0, 0, 0] ++ [x .u8 (0)] ++ n [0, 0, 0, 0, 0, 0] ++ [x .u8 (0)] ++ n [0, 0, 0, 0, 0, 0] ++ [x .u8 (0)] ++ n [0, 0, 0, 0, 0, 0] ++ [x .u8 (0)] ++ n [0, 0, 0, 0, 0, 0] ++ [x .u8 (0)] ++ n [0, 0, 0, 0, 0, 0] ++ [x .u8 (0)] ++ n [0, 0, 0, 0, 0, 0] ++ [x .u8 (0)] ++ n [0, 0, 0, 0, 0, 0] ++ [x .u8 (0)] ++ n [0, 0, 0, 0, 0, 0] ++ [x .u8 (0)] ++ n [0, 0, 0, 0, 0, 0] ++ [x .u8 (0)] ++ n [0, 0, 0, 0, 0, 0] ++ [x .u8 (0)] ++ n [0, 0, 0, 0, 0, 0] ++ [x .u8 (0)] ++ n [0, 0, 0, 0, 0, 0] ++ [x .u8 (0)] ++ n [0, 0, 0, 0, 0, 0] ++ [x .u8 (0)] ++ n [0, 0, 0, 0, 0, 0] ++ [x .u8 (0)] ++ n [0, 0, 0, 0, 0, 0] ++ [x .u8 (0)] ++ n [0, 0, 0, 0, 0, 0] ++ [x .u8 (0)] ++ n [0, 0, 0, 0, 0, 0] ++ [x .u8 (0)] ++ n [0, 0, 0, 0, 0, 0] ++ [x .u8 (0)] ++ n [0, 0, 0, 0, 0, 0] ++ [x .u8 (0)] ++ n [0, 0, 0, 0, 0, 0] ++ [x .u8 (0)] ++ n [0, 0, 0, 0, 0, 0] ++ [x .u8 (0)] ++ n [0, 0, 0, 0, 0, 0] ++ [x .u8 (0)] ++ n [0, 0, 0, 0, 0, 0] ++ [x .u8 (0)] ++ n [0, 0, 0, 0, 0, 0] ++ [x .u8 (0)] ++ n [0, 0, 0, 0, 0, 0] ++ [x .u8 (0)] ++ n [0, 0, 0, 0, 0, 0] ++ [x .u8 (0)] ++ n [0, 0, 0, 0, 0, 0] ++ [x .u8 (0)] ++ n [0, 0, 0, 0, 0, 0] ++ [x .u8 (0)] ++ n [0, 0, 0, 0, 0, 0] ++ [x .u8 (0)] ++ n [0, 0, 0, 0, 0, 0] ++ [x .u8 (0)] ++ n [0, 0, 0, 0, 0, 0] ++ [x .u8 (0)] ++ n [0, 0, 0, 0, 0, 0] ++ [x .u8 (0)] ++ n [0, 0, 0, 0, 0, 0] ++ [x .u8 (0)] ++ n [0, 0, 0, 0, 0, 0] ++ [x .u8 (0)] ++ n [0, 0, 0, 0, 0, 0] ++ [x .u8 (0)] ++ n [0, 0, 0, 0, 0, 0] ++ [x .u8 (0)] ++ n [0, 0, 0, 0, 0, 0] ++ [x .u8 (0)] ++ n [0, 0, 0, 0, 0, 0] ++ [x .u8 (0)] ++ n [0, 0, 0, 0, 0, 0] ++ [x .u8 (0)] ++ n [0, 0, 0, 0, 0, 0] ++ [x .u8 (0)] ++ n [0, 0, 0, 0, 0, 0] ++ [x .u8 (0)] ++ n [0, 0, 0, 0, 0, 0] ++ [x .u8 (0)] ++ n [0, 0, 0, 0, 0, 0] ++ [x .u8 (0)] ++ n [0, 0, 0, 0, 0, 0] ++ [x .u8 (0)] ++ n [0, 0, 0, 0, 0, 0] ++ [x .u8 (0)] ++ n [0, 0, 0, 0, 0, 0] ++ [x .u8 (0)] ++ n [0, 0, 0, 0, 0, 0] ++ [x .u8 (0)] ++ n [0, 0, 0, 0, 0, 0] ++ [x .u8 (0)] ++ n [0, 0, 0, 0, 0, 0] ++ [x .u8 (0)] ++ n [0, 0, 0, 0, 0, 0]) 78 7], (u [g [x .u8 (3), i 0, i 0, ns, i 0, ns, ns, ns, ns, ns, ns, ns, ns, i 0, i 0, ns, i 0, ns, ns, ns, ns, ns, ns, ns, ns, ns, i 0, i 1, q 20 0 2, i 1, q 21 0 1, q 22 0 200, q 23 0 200, q 24 0 199, q 25 0 1, q 26 0 200, q 27 0 1, i 1, q 28 0 2, i 0, i 0, ns, i 0, ns, ns, ns, ns, ns, ns, ns, ns, i 0, i 1, q 29 0 2, i 1, q 30 0 1, q 31 0 200, q 32 0 200, q 33 0 199, q 34 0 1, q 35 0 200, q 36 0 1, q 37 0 2, q 38 0 1], q 39 0 120, i 0]), [o0, r [i 0, i 1, i 2] 149 3, o6, o7, o8, o9, o10, r [i 0, i 0, i 1] 209 3, o5, o0, r [i 0, i 1, i 2] 149 3, o6, o7, o8, o9, o10, r [i 0, i 0, i 1] 209 3, r [i 2, i 1] 3 1, r [i 0] 3 1, r [i 12, i 0, i 0, i 0, i 0, ns, i 12, i 0, i 0, i 0, i 0, ns, i 12, i 0, i 0, i 0, i 0, ns, i 12, i 0, i 0, i 0, i 0, ns, i 12, i 0, i 0, i 0, i 0, ns, i 12, i 0, i 0, i 0, i 0, ns, i 12, i 0, i 0, i 0, i 0, ns, i 12, i 0, i 0, i 0, i 0, ns, i 12, i 0, i 0, i 0, i 0, ns, i 12, i 0, i 0, i 0, i 0, ns, i 12, i 0, i 0, i 0, i 0, ns, i 12, i 0, i 0, i 0, i 0, ns, i 12, i 0, i 0, i 0, i 0, ns, i 12, i 0, i 0, i 0, i 0, ns, i 12, i 0, i 0, i 0, i 0, ns, i 12, i 0, i 0, i 0, i 0, ns, i 12, i 0, i 0, i 0, i 0, ns, i 12, i 0, i 0, i 0, i 0, ns, i 12, i 0, i 0, i 0, i 0, ns, i 12, i 0, i 0, i 0, i 0, ns, i 12, i 0, i 0, i 0, i 0, ns, i 12, i 0, i 0, i 0, i 0, ns, i 12, i 0, i 0, i 0, i 0, ns, i 12, i 0, i 0, i 0, i 0, ns, i 12, i 0, i 0, i 0, i 0, ns, i 12, i 0, i 0, i 0, i 0, ns, i 12, i 0, i 0, i 0, i 0, ns, i 12, i 0, i 0, i 0, i 0, ns, i 12, i 0, i 0, i 0, i 0, ns, i 12, i 0, i 0, i 0, i 0, ns, i 12, i 0, i 0, i 0, i 0, ns, i 12, i 0, i 0, i 0, i 0, ns, i 12, i 0, i 0, i 0, i 0, ns, i 12, i 0, i 0, i 0, i 0, ns, i 12, i 0, i 0, i 0, i 0, ns, i 12, i 0, i 0, i 0, i 0, ns, i 12, i 0, i 0, i 0, i 0, ns, i 12, i 0, i 0, i 0, i 0, ns, i 12, i 0, i 0, i 0, i 0, ns, i 12, i 0, i 0, i 0, i 0, ns, i 12, i 0, i 0, i 0, i 0, ns, i 12, i 0, i 0, i 0, i 0, ns, i 12, i 0, i 0, i 0, i 0, ns, i 12, i 0, i 0, i 0, i 0, ns, i 12, i 0, i 0, i 0, i 0, ns, i 12, i 0, i 0, i 0, i 0, ns, i 12, i 0, i 0, i 0, i 0, ns, i 12, i 0, i 0, i 0, i 0, ns, i 12, i 0, i 0, i 0, i 0, ns, i 12, i 0, i 0, i 0, i 0, ns, i 12, i 0, i 0, i 0, i 0, ns, i 12, i 0, i 0, i 0, i 0, ns, i 12, i 0, i 0, i 0, i 0, ns, i 12, i 0, i 0, i 0, i 0, ns, i 12, i 0, i 0, i 0, i 0, ns, i 12, i 0, i 0, i 0, i 0, ns, i 12, i 0, i 0, i 0, i 0, ns, i 12, i 0, i 0, i 0, i 0, ns, i 12, i 0, i 0, i 0, i 0, ns, i 12, i 0, i 0, i 0, i 0, ns, i 12, i 0, i 0, i 0, i 0, ns, i 12, i 0, i 0, i 0, i 0, ns, i 12, i 0, i 0, i 0, i 0, ns, i 12, i 0, i 0, i 0, i 0, ns, i 12, i 0, i 0, i 0, i 0, ns, i 12, i 0, i 0, i 0, i 0, ns, i 12, i 0, i 0, i 0, i 0, ns, i 12, i 0, i 0, i 0, i 0, ns, i 12, i 0, i 0, i 0, i 0, ns, i 12, i 0, i 0, i 0, i 0, ns, i 12, i 0, i 0, i 0, i 0, ns, i 12, i 0, i 0, i 0, i 0, ns, i 12, i 0, i 0, i 0, i 0, ns, i 12, i 0, i 0, i 0, i 0, ns, i 12, i 0, i 0, i 0, i 0, ns, i 12, i 0, i 0, i 0, i 0, ns, i 12, i 0, i 0, i 0, i 0, ns, i 12, i 0, i 0, i 0, i 0, ns, i 12, i 0, i 0, i 0, i 0, ns, i 12, i 0, i 0, i 0, i 0, ns, i 12, i 0, i 0, i 0, i 0, ns, i 12, i 0, i 0, i 0, i 0, ns, i 12, i 0, i 0, i 0, i 0, ns, i 12, i 0, i 0, i 0, i 0, ns, i 12, i 0, i 0, i 0, i 0, ns, i 12, i 0, i 0, i 0, i 0, ns, i 12, i 0, i 0, i 0, i 0, ns, i 12, i 0, i 0, i 0, i 0, ns, i 12, i 0, i 0, i 0, i 0, ns, i 12, i 0, i 0, i 0, i 0, ns, i 12, i 0, i 0, i 0, i 0, ns, i 12, i 0, i 0, i 0, i 0, ns, i 12, i 0, i 0, i 0, i 0, ns, i 12, i 0, i 0, i 0, i 0, ns, i 12, i 0, i 0, i 0, i 0, ns, i 12, i 0, i 0, i 0, i 0, ns, i 12, i 0, i 0, i 0, i 0, ns, i 12, i 0, i 0, i 0, i 0, ns, i 12, i 0, i 0, i 0, i 0, ns, i 12, i 0, i 0, i 0, i 0, ns, i 12, i 0, i 0, i 0, i 0, ns, i 12, i 0, i 0, i 0, i 0, ns, i 12, i 0, i 0, i 0, i 0, ns, i 12, i 0, i 0, i 0, i 0, ns, i 12, i 0, i 0, i 0, i 0, ns, i 12, i 0, i 0, i 0, i 0, ns, i 12, i 0, i 0, i 0, i 0, ns, i 12, i 0, i 0, i 0, i 0, ns, i 12, i 0, i 0, i 0, i 0, ns, i 12, i 0, i 0, i 0, i 0, ns, i 12, i 0, i 0, i 0, i 0, ns, i 12, i 0, i 0, i 0, i 0, ns, i 12, i 0, i 0, i 0, i 0, ns, i 12, i 0, i 0, i 0, i 0, ns, i 12, i 0, i 0, i 0, i 0, ns, i 12, i 0, i 0, i 0, i 0, ns, i 12, i 0, i 0, i 0, i 0, ns, i 12, i 0, i 0, i 0, i 0, ns, i 12, i 0, i 0, i 0, i 0, ns, i 12, i 0, i 0, i 0, i 0, ns] 72 6]⟩
/-- peloton/klist.Check: 362 operations. -/
def e85 : Ent := ⟨26, [g [i 0, i 1, ns, i 0, ns, s 0 0 200 200, s 1 0 200 200, s 2 0 200 200, ns, s 3 0 200 200, ns, s 4 0 0 0, s 5 0 0 0]], [o1, o2, o3, o4, r [] 3 1, r [] 3 1], (i 0), []⟩
/-- peloton/driver.copied: 597 operations. -/
def e86 : Ent := ⟨30, [g [x .u8 (3), i 0, i 0, ns, i 0, ns, ns, ns, ns, ns, ns, ns, ns, i 0, i 0, ns, i 0, ns, ns, ns, ns, ns, ns, ns, ns, ns, i 0, i 1, ns, i 0, ns, q 0 0 200, q 1 0 200, q 2 0 200, ns, q 3 0 200, ns, j 0, ns, i 0, i 0, ns, i 0, ns, ns, ns, ns, ns, ns, ns, ns, i 0, i 1, ns, i 0, ns, s 4 0 200 200, s 5 0 200 200, s 6 0 200 200, ns, s 7 0 200 200, ns, s 8 0 0 0, s 9 0 0 0]], [o1, o2, o3, o4, o1, o2, o3, o4, r [] 3 1, r [] 3 1], (g [x .u8 (3), i 0, i 0, ns, i 0, ns, ns, ns, ns, ns, ns, ns, ns, i 0, i 0, ns, i 0, ns, ns, ns, ns, ns, ns, ns, ns, ns, i 0, i 1, ns, i 0, ns, q 10 0 200, q 11 0 200, q 12 0 200, ns, q 13 0 200, ns, j 0, ns, i 0, i 0, ns, i 0, ns, ns, ns, ns, ns, ns, ns, ns, i 0, i 1, ns, i 0, ns, q 14 0 200, q 15 0 200, q 16 0 200, ns, q 17 0 200, ns, s 18 0 0 0, s 19 0 0 0]), [o1, o2, o3, o4, o1, o2, o3, o4, r [] 3 1, r [] 3 1]⟩
/-- peloton/driver.Run: 426 operations. -/
def e87 : Ent := ⟨10, [g [x .u8 (3), i 0, i 0, ns, i 0, ns, ns, ns, ns, ns, ns, ns, ns, i 0, i 0, ns, i 0, ns, ns, ns, ns, ns, ns, ns, ns, ns, i 0, i 1, ns, i 0, ns, q 0 0 200, q 1 0 200, q 2 0 200, ns, q 3 0 200, ns, j 0, ns, i 0, i 0, ns, i 0, ns, ns, ns, ns, ns, ns, ns, ns, i 0, i 1, ns, i 0, ns, s 4 0 200 200, s 5 0 200 200, s 6 0 200 200, ns, s 7 0 200 200, ns, s 8 0 0 0, s 9 0 0 0], s 10 0 1 1], [o1, o2, o3, o4, o1, o2, o3, o4, r [] 3 1, r [] 3 1, r ([x .u8 (6)] ++ n [0, 0, 0, 0, 0, 0]) 78 7], (u [g [x .u8 (3), i 0, i 0, ns, i 0, ns, ns, ns, ns, ns, ns, ns, ns, i 0, i 0, ns, i 0, ns, ns, ns, ns, ns, ns, ns, ns, ns, i 0, i 1, ns, i 0, ns, q 11 0 200, q 12 0 200, q 13 0 200, ns, q 14 0 200, ns, j 0, ns, i 0, i 0, ns, i 0, ns, ns, ns, ns, ns, ns, ns, ns, i 0, i 1, ns, i 0, ns, q 15 0 200, q 16 0 200, q 17 0 200, ns, q 18 0 200, ns, s 19 0 0 0, s 20 0 0 0], q 21 0 1, i 0]), [o1, o2, o3, o4, o1, o2, o3, o4, r [] 3 1, r [] 3 1, r [i 42, i 0, i 0, i 0, i 0, ns] 72 6]⟩
/-- peloton/ratio.Cmp: 341 operations. -/
def e88 : Ent := ⟨250, [g [i 0, i 1], g [i 0, i 1]], [], (u [i 0, i 0]), []⟩
/-- peloton/driver.Run: 229 operations. -/
def e89 : Ent := ⟨10, [g [x .u8 (3), i 0, i 0, ns, i 0, ns, ns, ns, ns, ns, ns, ns, ns, i 0, i 0, ns, i 0, ns, ns, ns, ns, ns, ns, ns, ns, ns, i 0, i 1, q 0 0 2, i 1, q 1 0 1, q 2 0 200, q 3 0 200, q 4 0 199, q 5 0 1, q 6 0 200, q 7 0 1, i 1, q 8 0 2, i 0, i 0, ns, i 0, ns, ns, ns, ns, ns, ns, ns, ns, i 0, i 1, q 9 0 2, i 1, q 10 0 1, q 11 0 200, q 12 0 200, q 13 0 199, q 14 0 1, q 15 0 200, q 16 0 1, s 17 0 2 2, s 18 0 1 1], s 19 0 1 1], [o0, r [i 0, i 1, i 2] 149 3, o6, o7, o8, o9, o10, r [i 0, i 0, i 1] 209 3, o5, o0, r [i 0, i 1, i 2] 149 3, o6, o7, o8, o9, o10, r [i 0, i 0, i 1] 209 3, r [i 2, i 1] 3 1, r [i 0] 3 1, r ([x .u8 (4)] ++ n [0, 0, 0, 0, 0, 1]) 78 7], (u [g [x .u8 (3), i 0, i 0, ns, i 0, ns, ns, ns, ns, ns, ns, ns, ns, i 0, i 0, ns, i 0, ns, ns, ns, ns, ns, ns, ns, ns, ns, i 0, i 1, q 20 0 2, i 1, q 21 0 1, q 22 0 200, q 23 0 200, q 24 0 199, q 25 0 1, q 26 0 200, q 27 0 1, i 1, q 28 0 2, i 0, i 0, ns, i 0, ns, ns, ns, ns, ns, ns, ns, ns, i 0, i 1, q 29 0 2, i 1, q 30 0 1, q 31 0 200, q 32 0 200, q 33 0 199, q 34 0 1, q 35 0 200, q 36 0 1, q 37 0 2, q 38 0 1], q 39 0 1, i 0]), [o0, r [i 0, i 1, i 2] 149 3, o6, o7, o8, o9, o10, r [i 0, i 0, i 1] 209 3, o5, o0, r [i 0, i 1, i 2] 149 3, o6, o7, o8, o9, o10, r [i 0, i 0, i 1] 209 3, r [i 2, i 1] 3 1, r [i 0] 3 1, r [i 44, i 0, i 0, i 0, i 0, ns] 72 6]⟩
/-- peloton/pelotonref06.SameInts: 3212 operations. -/
def e90 : Ent := ⟨209, [q 0 0 200, q 1 0 200], [o6, o6], t, []⟩
/-- peloton/pelotonref06.SameBools: 3212 operations. -/
def e91 : Ent := ⟨291, [q 0 0 200, q 1 0 200], [o7, o7], t, []⟩
/-- peloton/pelotonref06.SameInts: 3196 operations. -/
def e92 : Ent := ⟨209, [q 0 0 199, q 1 0 199], [o8, o8], t, []⟩
/-- peloton/pelotonref06.SameInts: 3212 operations. -/
def e93 : Ent := ⟨209, [q 0 0 200, q 1 0 200], [o10, o10], t, []⟩
/-- peloton/pelotonref09.Same: 240 operations. -/
def e94 : Ent := ⟨74, [g [i 0, i 1, q 0 0 2, i 1, q 1 0 1, q 2 0 200, q 3 0 200, q 4 0 199, q 5 0 1, q 6 0 200, q 7 0 1], g [i 0, i 1, q 8 0 2, i 1, q 9 0 1, q 10 0 200, q 11 0 200, q 12 0 199, q 13 0 1, q 14 0 200, q 15 0 1]], [o0, r [i 0, i 1, i 2] 149 3, o6, o7, o8, o9, o10, r [i 0, i 0, i 1] 209 3, o0, r [i 0, i 1, i 2] 149 3, o6, o7, o8, o9, o10, r [i 0, i 0, i 1] 209 3], t, []⟩
/-- peloton/pelotonref38.Same: 226 operations. -/
def e95 : Ent := ⟨13, [g [x .u8 (3), i 0, i 0, ns, i 0, ns, ns, ns, ns, ns, ns, ns, ns, i 0, i 0, ns, i 0, ns, ns, ns, ns, ns, ns, ns, ns, ns, i 0, i 1, q 0 0 2, i 1, q 1 0 1, q 2 0 200, q 3 0 200, q 4 0 199, q 5 0 1, q 6 0 200, q 7 0 1, i 1, q 8 0 2, i 0, i 0, ns, i 0, ns, ns, ns, ns, ns, ns, ns, ns, i 0, i 1, q 9 0 2, i 1, q 10 0 1, q 11 0 200, q 12 0 200, q 13 0 199, q 14 0 1, q 15 0 200, q 16 0 1, q 17 0 2, q 18 0 1], g [x .u8 (3), i 0, i 0, ns, i 0, ns, ns, ns, ns, ns, ns, ns, ns, i 0, i 0, ns, i 0, ns, ns, ns, ns, ns, ns, ns, ns, ns, i 0, i 1, q 19 0 2, i 1, q 20 0 1, q 21 0 200, q 22 0 200, q 23 0 199, q 24 0 1, q 25 0 200, q 26 0 1, i 1, q 27 0 2, i 0, i 0, ns, i 0, ns, ns, ns, ns, ns, ns, ns, ns, i 0, i 1, q 28 0 2, i 1, q 29 0 1, q 30 0 200, q 31 0 200, q 32 0 199, q 33 0 1, q 34 0 200, q 35 0 1, s 36 0 2 2, s 37 0 1 1]], [o0, r [i 0, i 1, i 2] 149 3, o6, o7, o8, o9, o10, r [i 0, i 0, i 1] 209 3, o5, o0, r [i 0, i 1, i 2] 149 3, o6, o7, o8, o9, o10, r [i 0, i 0, i 1] 209 3, r [i 2, i 1] 3 1, r [i 0] 3 1, o0, r [i 0, i 1, i 2] 149 3, o6, o7, o8, o9, o10, r [i 0, i 0, i 1] 209 3, o5, o0, r [i 0, i 1, i 2] 149 3, o6, o7, o8, o9, o10, r [i 0, i 0, i 1] 209 3, r [i 2, i 1] 3 1, r [i 0] 3 1], t, []⟩
/-- peloton/pelotonref06.SameInts: 3212 operations. -/
def e96 : Ent := ⟨209, [q 0 0 200, q 1 0 200], [o1, o1], t, []⟩
/-- peloton/pelotonref06.SameBools: 3212 operations. -/
def e97 : Ent := ⟨291, [q 0 0 200, q 1 0 200], [o2, o2], t, []⟩
/-- peloton/pelotonref06.SameInts: 3212 operations. -/
def e98 : Ent := ⟨209, [q 0 0 200, q 1 0 200], [o3, o3], t, []⟩
/-- peloton/pelotonref06.SameInts: 3212 operations. -/
def e99 : Ent := ⟨209, [q 0 0 200, q 1 0 200], [o4, o4], t, []⟩
/-- peloton/pelotonref20.Same: 222 operations. -/
def e100 : Ent := ⟨32, [g [x .u8 (3), i 0, i 0, ns, i 0, ns, ns, ns, ns, ns, ns, ns, ns, i 0, i 0, ns, i 0, ns, ns, ns, ns, ns, ns, ns, ns, ns, i 0, i 1, ns, i 0, ns, q 0 0 200, q 1 0 200, q 2 0 200, ns, q 3 0 200, ns, j 0, ns, i 0, i 0, ns, i 0, ns, ns, ns, ns, ns, ns, ns, ns], g [x .u8 (3), i 0, i 0, ns, i 0, ns, ns, ns, ns, ns, ns, ns, ns, i 0, i 0, ns, i 0, ns, ns, ns, ns, ns, ns, ns, ns, ns, i 0, i 1, ns, i 0, ns, q 4 0 200, q 5 0 200, q 6 0 200, ns, q 7 0 200, ns, j 0, ns, i 0, i 0, ns, i 0, ns, ns, ns, ns, ns, ns, ns, ns]], [o1, o2, o3, o4, o1, o2, o3, o4], t, []⟩
/-- peloton/pelotonref06.SameInts: 3212 operations. -/
def e101 : Ent := ⟨209, [q 0 0 200, s 1 0 200 200], [o1, o1], t, []⟩
/-- peloton/pelotonref06.SameBools: 3212 operations. -/
def e102 : Ent := ⟨291, [q 0 0 200, s 1 0 200 200], [o2, o2], t, []⟩
/-- peloton/pelotonref06.SameInts: 3212 operations. -/
def e103 : Ent := ⟨209, [q 0 0 200, s 1 0 200 200], [o3, o3], t, []⟩
/-- peloton/pelotonref06.SameInts: 3212 operations. -/
def e104 : Ent := ⟨209, [q 0 0 200, s 1 0 200 200], [o4, o4], t, []⟩
/-- peloton/pelotonref38.Same: 208 operations. -/
def e105 : Ent := ⟨13, [g [x .u8 (3), i 0, i 0, ns, i 0, ns, ns, ns, ns, ns, ns, ns, ns, i 0, i 0, ns, i 0, ns, ns, ns, ns, ns, ns, ns, ns, ns, i 0, i 1, ns, i 0, ns, q 0 0 200, q 1 0 200, q 2 0 200, ns, q 3 0 200, ns, j 0, ns, i 0, i 0, ns, i 0, ns, ns, ns, ns, ns, ns, ns, ns, i 0, i 1, ns, i 0, ns, q 4 0 200, q 5 0 200, q 6 0 200, ns, q 7 0 200, ns, s 8 0 0 0, s 9 0 0 0], g [x .u8 (3), i 0, i 0, ns, i 0, ns, ns, ns, ns, ns, ns, ns, ns, i 0, i 0, ns, i 0, ns, ns, ns, ns, ns, ns, ns, ns, ns, i 0, i 1, ns, i 0, ns, q 10 0 200, q 11 0 200, q 12 0 200, ns, q 13 0 200, ns, j 0, ns, i 0, i 0, ns, i 0, ns, ns, ns, ns, ns, ns, ns, ns, i 0, i 1, ns, i 0, ns, s 14 0 200 200, s 15 0 200 200, s 16 0 200 200, ns, s 17 0 200 200, ns, s 18 0 0 0, s 19 0 0 0]], [o1, o2, o3, o4, o1, o2, o3, o4, r [] 3 1, r [] 3 1, o1, o2, o3, o4, o1, o2, o3, o4, r [] 3 1, r [] 3 1], t, []⟩
/-- peloton/kheap.ahead: 254 operations. -/
def e106 : Ent := ⟨134, [g [s 0 0 2 2], g [i 0, i 1], i 2, i 1], [o0], t, []⟩
/-- peloton/kheap.Build: 266 operations. -/
def e107 : Ent := ⟨39, [g [s 0 0 2 2], g [i 0, i 1]], [o0], (u [g [i 0, i 1, q 1 0 2, i 1, q 2 0 1, q 3 0 200, q 4 0 200, q 5 0 199, q 6 0 1, q 7 0 200, q 8 0 1, q 9 0 2], i 0]), [o0, r [i 0, i 1, i 2] 149 3, o6, o7, o8, o9, o10, r [i 0, i 0, i 1] 209 3, r [i 2, i 1] 3 1]⟩
/-- peloton/driver.New: 301 operations. -/
def e108 : Ent := ⟨4, [x .u8 (1), g [i 0, i 1, s 0 0 2 2]], [o0], (u [g [x .u8 (1), i 0, i 1, q 1 0 2, i 1, q 2 0 1, q 3 0 200, q 4 0 200, q 5 0 199, q 6 0 1, q 7 0 200, q 8 0 1, q 9 0 2, i 0, i 0, ns, i 0, ns, ns, ns, ns, ns, ns, ns, ns, ns, i 0, i 0, ns, i 0, ns, ns, ns, ns, ns, ns, ns, i 0, ns, i 0, i 0, ns, i 0, ns, ns, ns, ns, ns, ns, ns, ns, i 0, i 1, q 10 0 2, i 1, q 11 0 1, q 12 0 200, q 13 0 200, q 14 0 199, q 15 0 1, q 16 0 200, q 17 0 1, s 18 0 2 2, s 19 0 1 1], i 0]), [o0, r [i 0, i 1, i 2] 149 3, o6, o7, o8, o9, o10, r [i 0, i 0, i 1] 209 3, r [i 2, i 1] 3 1, o0, r [i 0, i 1, i 2] 149 3, o6, o7, o8, o9, o10, r [i 0, i 0, i 1] 209 3, r [i 2, i 1] 3 1, r [i 0] 3 1]⟩
/-- peloton/field.place: 353 operations. -/
def e109 : Ent := ⟨285, [g [q 0 0 2], i 2], [o0], (u [i 1, i 0]), []⟩
/-- peloton/field.place: 355 operations. -/
def e110 : Ent := ⟨285, [g [q 0 0 2], i 1], [o0], (u [i 0, i 0]), []⟩
/-- peloton/kheap.ahead: 254 operations. -/
def e111 : Ent := ⟨134, [g [q 0 0 2], g [i 0, i 1], i 2, i 1], [o0], t, []⟩
/-- peloton/kheap.Check: 205 operations. -/
def e112 : Ent := ⟨111, [g [i 0, i 1, q 0 0 2, i 1, q 1 0 1, q 2 0 200, q 3 0 200, q 4 0 199, q 5 0 1, q 6 0 200, q 7 0 1, q 8 0 2]], [o0, r [i 0, i 1, i 2] 149 3, o6, o7, o8, o9, o10, r [i 0, i 0, i 1] 209 3, r [i 2, i 1] 3 1], (i 0), []⟩
/-- peloton/choose.Check: 390 operations. -/
def e113 : Ent := ⟨61, [g [x .u8 (1), i 0, i 1, q 0 0 2, i 1, q 1 0 1, q 2 0 200, q 3 0 200, q 4 0 199, q 5 0 1, q 6 0 200, q 7 0 1, q 8 0 2, i 0, i 0, ns, i 0, ns, ns, ns, ns, ns, ns, ns, ns, ns, i 0, i 0, ns, i 0, ns, ns, ns, ns, ns, ns, ns, i 0, ns, i 0, i 0, ns, i 0, ns, ns, ns, ns, ns, ns, ns, ns]], [o0, r [i 0, i 1, i 2] 149 3, o6, o7, o8, o9, o10, r [i 0, i 0, i 1] 209 3, r [i 2, i 1] 3 1], (i 0), []⟩
/-- peloton/driver.copied: 624 operations. -/
def e114 : Ent := ⟨30, [g [x .u8 (1), i 0, i 1, q 0 0 2, i 1, q 1 0 1, q 2 0 200, q 3 0 200, q 4 0 199, q 5 0 1, q 6 0 200, q 7 0 1, q 8 0 2, i 0, i 0, ns, i 0, ns, ns, ns, ns, ns, ns, ns, ns, ns, i 0, i 0, ns, i 0, ns, ns, ns, ns, ns, ns, ns, i 0, ns, i 0, i 0, ns, i 0, ns, ns, ns, ns, ns, ns, ns, ns, i 0, i 1, q 9 0 2, i 1, q 10 0 1, q 11 0 200, q 12 0 200, q 13 0 199, q 14 0 1, q 15 0 200, q 16 0 1, s 17 0 2 2, s 18 0 1 1]], [o0, r [i 0, i 1, i 2] 149 3, o6, o7, o8, o9, o10, r [i 0, i 0, i 1] 209 3, r [i 2, i 1] 3 1, o0, r [i 0, i 1, i 2] 149 3, o6, o7, o8, o9, o10, r [i 0, i 0, i 1] 209 3, r [i 2, i 1] 3 1, r [i 0] 3 1], (g [x .u8 (1), i 0, i 1, q 19 0 2, i 1, q 20 0 1, q 21 0 200, q 22 0 200, q 23 0 199, q 24 0 1, q 25 0 200, q 26 0 1, q 27 0 2, i 0, i 0, ns, i 0, ns, ns, ns, ns, ns, ns, ns, ns, ns, i 0, i 0, ns, i 0, ns, ns, ns, ns, ns, ns, ns, i 0, ns, i 0, i 0, ns, i 0, ns, ns, ns, ns, ns, ns, ns, ns, i 0, i 1, q 28 0 2, i 1, q 29 0 1, q 30 0 200, q 31 0 200, q 32 0 199, q 33 0 1, q 34 0 200, q 35 0 1, q 36 0 2, q 37 0 1]), [o0, r [i 0, i 1, i 2] 149 3, o6, o7, o8, o9, o10, r [i 0, i 0, i 1] 209 3, r [i 2, i 1] 3 1, o0, r [i 0, i 1, i 2] 149 3, o6, o7, o8, o9, o10, r [i 0, i 0, i 1] 209 3, r [i 2, i 1] 3 1, r [i 0] 3 1]⟩
/-- peloton/course.sum: 205 operations. -/
def e115 : Ent := ⟨286, [g [i 6, i 1, j 0, i 0]], [], (g [i 0, x .u64 (6)]), []⟩
/-- peloton/course.At: 206 operations. -/
def e116 : Ent := ⟨206, [g [i 2, i 6, j 0], g [i 0, i 1]], [], (u [g [i 6, i 1], i 0]), []⟩
/-- peloton/klist.Check: 204 operations. -/
def e117 : Ent := ⟨26, [g [i 0, i 1, q 0 0 2, i 1, q 1 0 1, q 2 0 200, q 3 0 200, q 4 0 199, q 5 0 1, q 6 0 200, q 7 0 1, q 8 0 2, q 9 0 1]], [o0, r [i 0, i 1, i 2] 149 3, o6, o7, o8, o9, o10, r [i 0, i 0, i 1] 209 3, r [i 2, i 1] 3 1, r [i 0] 3 1], (i 0), []⟩
/-- peloton/ratio.Cmp: 357 operations. -/
def e118 : Ent := ⟨250, [g [i 3, i 1], g [i 0, i 1]], [], (u [i 1, i 0]), []⟩
/-- peloton/ratio.Cmp: 370 operations. -/
def e119 : Ent := ⟨250, [g [i 2, i 1], g [i 3, i 1]], [], (u [j 0, i 0]), []⟩
/-- peloton/agenda.remove: 209 operations. -/
def e120 : Ent := ⟨297, [g [q 0 0 200, q 1 0 200, q 2 0 199, q 3 0 1, q 4 0 200], i 0], [o6, o7, o8, o9, o10], (u [g [q 5 0 200, q 6 0 200, q 7 0 200, q 8 0 0, q 9 0 200], g [i 2, i 1, i 0, i 0, i 1], i 0]), [o6, o2, o3, o9, o4]⟩
/-- peloton/clock.drop: 512 operations. -/
def e121 : Ent := ⟨211, [g [i 0, i 1, q 0 0 2, i 1, q 1 0 1, q 2 0 200, q 3 0 200, q 4 0 199, q 5 0 1, q 6 0 200, q 7 0 1], i 0], [o0, r [i 0, i 1, i 2] 149 3, o6, o7, o8, o9, o10, r [i 0, i 0, i 1] 209 3], (u [g [i 0, i 1, q 8 0 2, i 1, q 9 0 0, q 10 0 200, q 11 0 200, q 12 0 200, q 13 0 0, q 14 0 200, q 15 0 0], g [i 1, i 2], i 0]), [o0, r [i 0, i 0, i 0] 149 3, o6, o2, o3, o9, o4, r [i 0, i 0, i 0] 209 3]⟩
/-- peloton/slot.Check: 11061 operations. -/
def e122 : Ent := ⟨180, [g [q 0 0 200, q 1 0 200, q 2 0 200]], [o6, o2, o3], (i 0), []⟩
/-- peloton/agenda.Check: 3444 operations. -/
def e123 : Ent := ⟨116, [g [q 0 0 200, q 1 0 200, q 2 0 200, q 3 0 0, q 4 0 200]], [o6, o2, o3, o9, o4], (i 0), []⟩
/-- peloton/clock.Check: 308 operations. -/
def e124 : Ent := ⟨63, [g [i 2, i 1, q 0 0 2, i 1, q 1 0 0, q 2 0 200, q 3 0 200, q 4 0 200, q 5 0 0, q 6 0 200, q 7 0 0]], [o0, r [i 0, i 0, i 0] 149 3, o6, o2, o3, o9, o4, r [i 0, i 0, i 0] 209 3], (i 0), []⟩
/-- peloton/course.sum: 205 operations. -/
def e125 : Ent := ⟨286, [g [i 6, i 1, j 2, i 2]], [], (g [i 0, x .u64 (0)]), []⟩
/-- peloton/course.Fails: 275 operations. -/
def e126 : Ent := ⟨182, [g [i 1, i 0, i 2], g [i 2, i 6, j 0], g [i 2, i 1]], [], (u [g [i 0, i 0], f, i 0]), []⟩
/-- peloton/clock.when: 390 operations. -/
def e127 : Ent := ⟨117, [g [q 0 0 2], g [i 2, i 1], g [i 2, i 1]], [o0], (u [g [i 0, i 0], f, i 0]), []⟩
/-- peloton/clock.Certify: 677 operations. -/
def e128 : Ent := ⟨85, [g [i 2, i 1, q 0 0 2, i 1, q 1 0 0, q 2 0 200, q 3 0 200, q 4 0 200, q 5 0 0, q 6 0 200, q 7 0 0], g [i 2, i 1]], [o0, r [i 0, i 0, i 0] 149 3, o6, o2, o3, o9, o4, r [i 0, i 0, i 0] 209 3], (u [g [i 2, i 1, q 8 0 2, i 2, q 9 0 1, q 10 0 200, q 11 0 200, q 12 0 200, s 13 0 0 0, q 14 0 200, s 15 0 0 0], i 1, i 0]), [o0, r [i 1, i 2, i 1] 149 3, o6, o2, o3, r [] 211 5, o4, r [] 209 3]⟩
/-- peloton/kheap.event: 418 operations. -/
def e129 : Ent := ⟨359, [g [i 0, i 1, q 0 0 2, i 1, q 1 0 1, q 2 0 200, q 3 0 200, q 4 0 199, q 5 0 1, q 6 0 200, q 7 0 1, q 8 0 2], g [i 3, i 1]], [o0, r [i 0, i 1, i 2] 149 3, o6, o7, o8, o9, o10, r [i 0, i 0, i 1] 209 3, r [i 2, i 1] 3 1], (u [g [i 2, i 1, q 9 0 2, i 2, q 10 0 1, q 11 0 200, q 12 0 200, q 13 0 200, s 14 0 0 0, q 15 0 200, s 16 0 0 0, q 17 0 2], g [i 1, i 2], i 0]), [o0, r [i 1, i 2, i 1] 149 3, o6, o2, o3, r [] 211 5, o4, r [] 209 3, r [i 1, i 2] 3 1]⟩
/-- peloton/agenda.Check: 3444 operations. -/
def e130 : Ent := ⟨116, [g [q 0 0 200, q 1 0 200, q 2 0 200, s 3 0 0 0, q 4 0 200]], [o6, o2, o3, r [] 211 5, o4], (i 0), []⟩
/-- peloton/clock.Check: 395 operations. -/
def e131 : Ent := ⟨63, [g [i 2, i 1, q 0 0 2, i 2, q 1 0 1, q 2 0 200, q 3 0 200, q 4 0 200, s 5 0 0 0, q 6 0 200, s 7 0 0 0]], [o0, r [i 1, i 2, i 1] 149 3, o6, o2, o3, r [] 211 5, o4, r [] 209 3], (i 0), []⟩
/-- peloton/ratio.Cmp: 373 operations. -/
def e132 : Ent := ⟨250, [g [i 3, i 1], g [i 2, i 1]], [], (u [i 1, i 0]), []⟩
/-- peloton/clock.Move: 251 operations. -/
def e133 : Ent := ⟨360, [g [i 2, i 1, q 0 0 2, i 2, q 1 0 1, q 2 0 200, q 3 0 200, q 4 0 200, s 5 0 0 0, q 6 0 200, s 7 0 0 0], g [i 3, i 1]], [o0, r [i 1, i 2, i 1] 149 3, o6, o2, o3, r [] 211 5, o4, r [] 209 3], (u [g [i 3, i 1, q 8 0 2, i 2, q 9 0 1, q 10 0 200, q 11 0 200, q 12 0 200, s 13 0 0 0, q 14 0 200, s 15 0 0 0], i 0]), [o0, r [i 1, i 2, i 1] 149 3, o6, o2, o3, r [] 211 5, o4, r [] 209 3]⟩
/-- peloton/kheap.Advance: 297 operations. -/
def e134 : Ent := ⟨275, [g [i 0, i 1, q 0 0 2, i 1, q 1 0 1, q 2 0 200, q 3 0 200, q 4 0 199, q 5 0 1, q 6 0 200, q 7 0 1, q 8 0 2], g [i 3, i 1]], [o0, r [i 0, i 1, i 2] 149 3, o6, o7, o8, o9, o10, r [i 0, i 0, i 1] 209 3, r [i 2, i 1] 3 1], (u [g [i 3, i 1, q 9 0 2, i 2, q 10 0 1, q 11 0 200, q 12 0 200, q 13 0 200, s 14 0 0 0, q 15 0 200, s 16 0 0 0, q 17 0 2], q 18 0 1, i 0]), [o0, r [i 1, i 2, i 1] 149 3, o6, o2, o3, r [] 211 5, o4, r [] 209 3, r [i 1, i 2] 3 1, r [i 1, i 2] 147 2]⟩
/-- peloton/klist.Advance: 758 operations. -/
def e135 : Ent := ⟨279, [g [i 0, i 1, q 0 0 2, i 1, q 1 0 1, q 2 0 200, q 3 0 200, q 4 0 199, q 5 0 1, q 6 0 200, q 7 0 1, q 8 0 2, q 9 0 1], g [i 3, i 1]], [o0, r [i 0, i 1, i 2] 149 3, o6, o7, o8, o9, o10, r [i 0, i 0, i 1] 209 3, r [i 2, i 1] 3 1, r [i 0] 3 1], (u [g [i 3, i 1, q 10 0 2, i 2, q 11 0 1, q 12 0 200, q 13 0 200, q 14 0 200, s 15 0 0 0, q 16 0 200, s 17 0 0 0, q 18 0 2, q 19 0 1], i 1, i 0]), [o0, r [i 1, i 2, i 1] 149 3, o6, o2, o3, r [] 211 5, o4, r [] 209 3, r [i 1, i 2] 3 1, r [i 1] 3 1]⟩
/-- peloton/ratio.Cmp: 354 operations. -/
def e136 : Ent := ⟨250, [g [i 0, i 1], g [i 3, i 1]], [], (u [j 0, i 0]), []⟩
/-- peloton/meet.check: 299 operations. -/
def e137 : Ent := ⟨363, [g [q 0 0 2], s 1 0 2 2], [o0, r [i 0, i 1, i 3, i 1] 23 2], (i 0), []⟩
/-- peloton/course.Meet: 265 operations. -/
def e138 : Ent := ⟨252, [g [i 1, i 0, i 2], g [i 2, i 6, j 0]], [], (u [g [i 2, i 1], i 0]), []⟩
/-- peloton/ratio.Cmp: 357 operations. -/
def e139 : Ent := ⟨250, [g [i 2, i 1], g [i 0, i 1]], [], (u [i 1, i 0]), []⟩
def o12 : AObj := r [i 2, i 1, i 1, i 2] 115 4
/-- peloton/meet.All: 346 operations. -/
def e140 : Ent := ⟨280, [g [q 0 0 2], g [i 0, i 1], g [i 3, i 1]], [o0], (u [s 1 0 1 1, i 0]), [o12]⟩
/-- peloton/course.sum: 205 operations. -/
def e141 : Ent := ⟨286, [g [i 6, i 1, j 2, i 3]], [], (g [j 0, x .u64 (18446744073709551613)]), []⟩
/-- peloton/course.Fails: 206 operations. -/
def e142 : Ent := ⟨182, [g [i 1, i 0, i 2], g [i 2, i 6, j 0], g [i 3, i 1]], [], (u [g [i 0, i 0], f, i 0]), []⟩
/-- peloton/clock.when: 390 operations. -/
def e143 : Ent := ⟨117, [g [q 0 0 2], g [i 2, i 1], g [i 3, i 1]], [o0], (u [g [i 0, i 0], f, i 0]), []⟩
/-- peloton/clock.Check: 395 operations. -/
def e144 : Ent := ⟨63, [g [i 3, i 1, q 0 0 2, i 2, q 1 0 1, q 2 0 200, q 3 0 200, q 4 0 200, s 5 0 0 0, q 6 0 200, s 7 0 0 0]], [o0, r [i 1, i 2, i 1] 149 3, o6, o2, o3, r [] 211 5, o4, r [] 209 3], (i 0), []⟩
/-- peloton/course.sum: 205 operations. -/
def e145 : Ent := ⟨286, [g [j 5, i 1, i 3, i 3]], [], (g [i 0, x .u64 (3)]), []⟩
/-- peloton/kheap.ahead: 270 operations. -/
def e146 : Ent := ⟨134, [g [q 0 0 2], g [i 3, i 1], i 1, i 2], [o0], t, []⟩
/-- peloton/kheap.Check: 205 operations. -/
def e147 : Ent := ⟨111, [g [i 3, i 1, q 0 0 2, i 2, q 1 0 1, q 2 0 200, q 3 0 200, q 4 0 200, s 5 0 0 0, q 6 0 200, s 7 0 0 0, q 8 0 2]], [o0, r [i 1, i 2, i 1] 149 3, o6, o2, o3, r [] 211 5, o4, r [] 209 3, r [i 1, i 2] 3 1], (i 0), []⟩
/-- peloton/choose.Check: 406 operations. -/
def e148 : Ent := ⟨61, [g [x .u8 (1), i 3, i 1, q 0 0 2, i 2, q 1 0 1, q 2 0 200, q 3 0 200, q 4 0 200, s 5 0 0 0, q 6 0 200, s 7 0 0 0, q 8 0 2, i 0, i 0, ns, i 0, ns, ns, ns, ns, ns, ns, ns, ns, ns, i 0, i 0, ns, i 0, ns, ns, ns, ns, ns, ns, ns, i 0, ns, i 0, i 0, ns, i 0, ns, ns, ns, ns, ns, ns, ns, ns]], [o0, r [i 1, i 2, i 1] 149 3, o6, o2, o3, r [] 211 5, o4, r [] 209 3, r [i 1, i 2] 3 1], (i 0), []⟩
/-- peloton/field.sorted: 525 operations. -/
def e149 : Ent := ⟨84, [g [q 0 0 2], g [i 3, i 1]], [o0], (u [q 1 0 2, i 0]), [o0]⟩
/-- peloton/cert.find: 221 operations. -/
def e150 : Ent := ⟨118, [g [i 2, q 0 0 1], i 1], [r [i 1, i 2, i 1] 149 3], (u [i 0, i 0]), []⟩
/-- peloton/klist.Check: 204 operations. -/
def e151 : Ent := ⟨26, [g [i 3, i 1, q 0 0 2, i 2, q 1 0 1, q 2 0 200, q 3 0 200, q 4 0 200, s 5 0 0 0, q 6 0 200, s 7 0 0 0, q 8 0 2, q 9 0 1]], [o0, r [i 1, i 2, i 1] 149 3, o6, o2, o3, r [] 211 5, o4, r [] 209 3, r [i 1, i 2] 3 1, r [i 1] 3 1], (i 0), []⟩
/-- peloton/driver.Model: 212 operations. -/
def e152 : Ent := ⟨8, [g [x .u8 (1), i 3, i 1, q 0 0 2, i 2, q 1 0 1, q 2 0 200, q 3 0 200, q 4 0 200, s 5 0 0 0, q 6 0 200, s 7 0 0 0, q 8 0 2, i 0, i 0, ns, i 0, ns, ns, ns, ns, ns, ns, ns, ns, ns, i 0, i 0, ns, i 0, ns, ns, ns, ns, ns, ns, ns, i 0, ns, i 0, i 0, ns, i 0, ns, ns, ns, ns, ns, ns, ns, ns, i 3, i 1, q 9 0 2, i 2, q 10 0 1, q 11 0 200, q 12 0 200, q 13 0 200, s 14 0 0 0, q 15 0 200, s 16 0 0 0, q 17 0 2, q 18 0 1]], [o0, r [i 1, i 2, i 1] 149 3, o6, o2, o3, r [] 211 5, o4, r [] 209 3, r [i 1, i 2] 3 1, o0, r [i 1, i 2, i 1] 149 3, o6, o2, o3, r [] 211 5, o4, r [] 209 3, r [i 1, i 2] 3 1, r [i 1] 3 1], (u [g [i 3, i 1, q 19 0 2], i 0]), [o0]⟩
/-- peloton/oracle.Check: 262 operations. -/
def e153 : Ent := ⟨17, [g [i 3, i 1, q 0 0 2]], [o0], (i 0), []⟩
/-- peloton/course.sum: 200 operations. -/
def e154 : Ent := ⟨286, [g [i 0, i 1, i 2, i 3]], [], (g [i 0, x .u64 (6)]), []⟩
/-- peloton/course.At: 222 operations. -/
def e155 : Ent := ⟨206, [g [i 1, i 0, i 2], g [i 3, i 1]], [], (u [g [i 6, i 1], i 0]), []⟩
/-- peloton/course.sum: 205 operations. -/
def e156 : Ent := ⟨286, [g [i 6, i 1, j 0, i 3]], [], (g [i 0, x .u64 (3)]), []⟩
/-- peloton/course.At: 222 operations. -/
def e157 : Ent := ⟨206, [g [i 2, i 6, j 0], g [i 3, i 1]], [], (u [g [i 3, i 1], i 0]), []⟩
/-- peloton/ratio.Add: 657 operations. -/
def e158 : Ent := ⟨429, [g [i 6, i 1], g [j 2, i 1]], [], (u [g [i 3, i 1], i 0]), []⟩
/-- peloton/close.neighbours: 461 operations. -/
def e159 : Ent := ⟨370, [g [q 0 0 2], g [i 3, i 1]], [o0], (u [q 1 0 1, i 0]), [r [i 1, i 2, i 3, i 1] 313 4]⟩
/-- peloton/ratio.Cmp: 373 operations. -/
def e160 : Ent := ⟨250, [g [i 3, i 1], g [i 3, i 1]], [], (u [i 0, i 0]), []⟩
/-- peloton/close.closest: 577 operations. -/
def e161 : Ent := ⟨290, [g [q 0 0 2], g [i 3, i 1]], [o0], (u [g [i 1, i 2, i 3, i 1], i 0]), []⟩
def o13 : AObj := r ([x .u8 (5)] ++ n [0, 0, 0, 0, 0, 0] ++ [x .u8 (4)] ++ n [0, 0, 0, 0, 3, 1] ++ [x .u8 (5)] ++ n [0, 0, 0, 0, 0, 0] ++ [x .u8 (6)] ++ n [0, 0, 0, 0, 0, 0]) 78 7
/-- peloton/driver.Run: 1604 operations. -/
def e162 : Ent := ⟨10, [g [x .u8 (1), i 0, i 1, q 0 0 2, i 1, q 1 0 1, q 2 0 200, q 3 0 200, q 4 0 199, q 5 0 1, q 6 0 200, q 7 0 1, q 8 0 2, i 0, i 0, ns, i 0, ns, ns, ns, ns, ns, ns, ns, ns, ns, i 0, i 0, ns, i 0, ns, ns, ns, ns, ns, ns, ns, i 0, ns, i 0, i 0, ns, i 0, ns, ns, ns, ns, ns, ns, ns, ns, i 0, i 1, q 9 0 2, i 1, q 10 0 1, q 11 0 200, q 12 0 200, q 13 0 199, q 14 0 1, q 15 0 200, q 16 0 1, s 17 0 2 2, s 18 0 1 1], s 19 0 4 4], [o0, r [i 0, i 1, i 2] 149 3, o6, o7, o8, o9, o10, r [i 0, i 0, i 1] 209 3, r [i 2, i 1] 3 1, o0, r [i 0, i 1, i 2] 149 3, o6, o7, o8, o9, o10, r [i 0, i 0, i 1] 209 3, r [i 2, i 1] 3 1, r [i 0] 3 1, o13], (u [g [x .u8 (1), i 3, i 1, q 20 0 2, i 2, q 21 0 1, q 22 0 200, q 23 0 200, q 24 0 200, s 25 0 0 0, q 26 0 200, s 27 0 0 0, q 28 0 2, i 0, i 0, ns, i 0, ns, ns, ns, ns, ns, ns, ns, ns, ns, i 0, i 0, ns, i 0, ns, ns, ns, ns, ns, ns, ns, i 0, ns, i 0, i 0, ns, i 0, ns, ns, ns, ns, ns, ns, ns, ns, i 3, i 1, q 29 0 2, i 2, q 30 0 1, q 31 0 200, q 32 0 200, q 33 0 200, s 34 0 0 0, q 35 0 200, s 36 0 0 0, q 37 0 2, q 38 0 1], q 39 0 4, i 0]), [o0, r [i 1, i 2, i 1] 149 3, o6, o2, o3, r [] 211 5, o4, r [] 209 3, r [i 1, i 2] 3 1, o0, r [i 1, i 2, i 1] 149 3, o6, o2, o3, r [] 211 5, o4, r [] 209 3, r [i 1, i 2] 3 1, r [i 1] 3 1, r [i 0, i 2, i 0, i 6, i 1, ns, i 0, i 0, i 0, i 0, i 0, s 40 0 1 1, i 0, i 1, i 0, i 6, i 1, ns, i 0, i 1, i 2, i 3, i 1, ns] 72 6, o12]⟩
/-- peloton/clock.New: 262 operations. -/
def e163 : Ent := ⟨44, [g [q 0 0 2], g [i 3, i 1]], [o0], (u [g [i 3, i 1, q 1 0 2, i 0, ns, s 2 0 200 200, s 3 0 200 200, s 4 0 200 200, ns, s 5 0 200 200, ns], i 0]), [o0, o1, o2, o3, o4]⟩
/-- peloton/bracket.timed: 216 operations. -/
def e164 : Ent := ⟨298, [g [q 0 0 2], g [i 3, i 1]], [o0], (i 0), []⟩
/-- peloton/bracket.known: 437 operations. -/
def e165 : Ent := ⟨299, [g [q 0 0 2], s 1 0 2 2], [o0, r [i 1, i 2] 3 1], t, []⟩
/-- peloton/bracket.won: 593 operations. -/
def e166 : Ent := ⟨300, [g [q 0 0 2], g [i 3, i 1], i 1, i 2], [o0], (i 1), []⟩
/-- peloton/bracket.Build: 201 operations. -/
def e167 : Ent := ⟨216, [g [q 0 0 2], g [i 3, i 1], s 1 0 2 2], [o0, r [i 1, i 2] 3 1], (u [g [q 2 0 2, s 3 0 1 1], i 0]), [r [i 1, i 2] 3 1, r [i 1] 3 1]⟩
/-- peloton/clock.Check: 308 operations. -/
def e168 : Ent := ⟨63, [g [i 3, i 1, q 0 0 2, i 0, ns, s 1 0 200 200, s 2 0 200 200, s 3 0 200 200, ns, s 4 0 200 200, ns]], [o0, o1, o2, o3, o4], (i 0), []⟩
/-- peloton/clock.Check: 308 operations. -/
def e169 : Ent := ⟨63, [g [i 3, i 1, q 0 0 2, i 0, ns, q 1 0 200, q 2 0 200, q 3 0 200, ns, q 4 0 200, ns]], [o0, o1, o2, o3, o4], (i 0), []⟩
/-- peloton/clock.Certify: 665 operations. -/
def e170 : Ent := ⟨85, [g [i 3, i 1, q 0 0 2, i 0, ns, q 1 0 200, q 2 0 200, q 3 0 200, ns, q 4 0 200, ns], g [i 2, i 1]], [o0, o1, o2, o3, o4], (u [g [i 3, i 1, q 5 0 2, i 1, q 6 0 1, q 7 0 200, q 8 0 200, q 9 0 200, ns, q 10 0 200, ns], i 0, i 0]), [o0, r [i 0, i 2, i 1] 149 3, o1, o2, o3, o4]⟩
/-- peloton/kheap.Renew: 547 operations. -/
def e171 : Ent := ⟨141, [g [i 3, i 1, q 0 0 2, i 0, ns, s 1 0 200 200, s 2 0 200 200, s 3 0 200 200, ns, s 4 0 200 200, ns], g [q 5 0 2], q 6 0 1], [o0, o1, o2, o3, o4, o0, r [i 2, i 1] 147 2], (u [g [i 3, i 1, q 7 0 2, i 1, q 8 0 1, q 9 0 200, q 10 0 200, q 11 0 200, ns, q 12 0 200, ns], i 0]), [o0, r [i 0, i 2, i 1] 149 3, o1, o2, o3, o4]⟩
/-- peloton/ktourn.Build: 320 operations. -/
def e172 : Ent := ⟨40, [g [q 0 0 2], g [i 3, i 1]], [o0], (u [g [i 3, i 1, q 1 0 2, i 1, q 2 0 1, q 3 0 200, q 4 0 200, q 5 0 200, ns, q 6 0 200, ns, q 7 0 2, s 8 0 1 1], i 0]), [o0, r [i 0, i 2, i 1] 149 3, o1, o2, o3, o4, r [i 1, i 2] 3 1, r [i 1] 3 1]⟩
/-- peloton/driver.copied: 624 operations. -/
def e173 : Ent := ⟨30, [g [x .u8 (1), i 3, i 1, q 0 0 2, i 2, q 1 0 1, q 2 0 200, q 3 0 200, q 4 0 200, s 5 0 0 0, q 6 0 200, s 7 0 0 0, q 8 0 2, i 0, i 0, ns, i 0, ns, ns, ns, ns, ns, ns, ns, ns, ns, i 0, i 0, ns, i 0, ns, ns, ns, ns, ns, ns, ns, i 0, ns, i 0, i 0, ns, i 0, ns, ns, ns, ns, ns, ns, ns, ns, i 3, i 1, q 9 0 2, i 2, q 10 0 1, q 11 0 200, q 12 0 200, q 13 0 200, s 14 0 0 0, q 15 0 200, s 16 0 0 0, q 17 0 2, q 18 0 1]], [o0, r [i 1, i 2, i 1] 149 3, o6, o2, o3, r [] 211 5, o4, r [] 209 3, r [i 1, i 2] 3 1, o0, r [i 1, i 2, i 1] 149 3, o6, o2, o3, r [] 211 5, o4, r [] 209 3, r [i 1, i 2] 3 1, r [i 1] 3 1], (g [x .u8 (1), i 3, i 1, q 19 0 2, i 2, q 20 0 1, q 21 0 200, q 22 0 200, q 23 0 200, s 24 0 0 0, q 25 0 200, s 26 0 0 0, q 27 0 2, i 0, i 0, ns, i 0, ns, ns, ns, ns, ns, ns, ns, ns, ns, i 0, i 0, ns, i 0, ns, ns, ns, ns, ns, ns, ns, i 0, ns, i 0, i 0, ns, i 0, ns, ns, ns, ns, ns, ns, ns, ns, i 3, i 1, q 28 0 2, i 2, q 29 0 1, q 30 0 200, q 31 0 200, q 32 0 200, s 33 0 0 0, q 34 0 200, s 35 0 0 0, q 36 0 2, q 37 0 1]), [o0, r [i 1, i 2, i 1] 149 3, o6, o2, o3, r [] 211 5, o4, r [] 209 3, r [i 1, i 2] 3 1, o0, r [i 1, i 2, i 1] 149 3, o6, o2, o3, r [] 211 5, o4, r [] 209 3, r [i 1, i 2] 3 1, r [i 1] 3 1]⟩
/-- peloton/clock.Check: 395 operations. -/
def e174 : Ent := ⟨63, [g [i 3, i 1, q 0 0 2, i 1, q 1 0 1, q 2 0 200, q 3 0 200, q 4 0 200, ns, q 5 0 200, ns]], [o0, r [i 0, i 2, i 1] 149 3, o1, o2, o3, o4], (i 0), []⟩
/-- peloton/bracket.Check: 257 operations. -/
def e175 : Ent := ⟨170, [g [q 0 0 2, s 1 0 1 1]], [r [i 1, i 2] 3 1, r [i 1] 3 1], (i 0), []⟩
/-- peloton/bracket.known: 437 operations. -/
def e176 : Ent := ⟨299, [g [q 0 0 2], q 1 0 2], [o0, r [i 1, i 2] 3 1], t, []⟩
/-- peloton/bracket.Build: 201 operations. -/
def e177 : Ent := ⟨216, [g [q 0 0 2], g [i 3, i 1], q 1 0 2], [o0, r [i 1, i 2] 3 1], (u [g [q 2 0 2, s 3 0 1 1], i 0]), [r [i 1, i 2] 3 1, r [i 1] 3 1]⟩
/-- peloton/ktourn.Check: 466 operations. -/
def e178 : Ent := ⟨112, [g [i 3, i 1, q 0 0 2, i 1, q 1 0 1, q 2 0 200, q 3 0 200, q 4 0 200, ns, q 5 0 200, ns, q 6 0 2, s 7 0 1 1]], [o0, r [i 0, i 2, i 1] 149 3, o1, o2, o3, o4, r [i 1, i 2] 3 1, r [i 1] 3 1], (i 0), []⟩
/-- peloton/choose.Check: 403 operations. -/
def e179 : Ent := ⟨61, [g [x .u8 (2), i 0, i 0, ns, i 0, ns, ns, ns, ns, ns, ns, ns, ns, i 3, i 1, q 0 0 2, i 1, q 1 0 1, q 2 0 200, q 3 0 200, q 4 0 200, ns, q 5 0 200, ns, q 6 0 2, s 7 0 1 1, i 0, i 0, ns, i 0, ns, ns, ns, ns, ns, ns, ns, i 0, ns, i 0, i 0, ns, i 0, ns, ns, ns, ns, ns, ns, ns, ns]], [o0, r [i 0, i 2, i 1] 149 3, o1, o2, o3, o4, r [i 1, i 2] 3 1, r [i 1] 3 1], (i 0), []⟩
/-- peloton/driver.Model: 214 operations. -/
def e180 : Ent := ⟨8, [g [x .u8 (2), i 0, i 0, ns, i 0, ns, ns, ns, ns, ns, ns, ns, ns, i 3, i 1, q 0 0 2, i 1, q 1 0 1, q 2 0 200, q 3 0 200, q 4 0 200, ns, q 5 0 200, ns, q 6 0 2, s 7 0 1 1, i 0, i 0, ns, i 0, ns, ns, ns, ns, ns, ns, ns, i 0, ns, i 0, i 0, ns, i 0, ns, ns, ns, ns, ns, ns, ns, ns, i 3, i 1, q 8 0 2, i 2, q 9 0 1, q 10 0 200, q 11 0 200, q 12 0 200, s 13 0 0 0, q 14 0 200, s 15 0 0 0, q 16 0 2, q 17 0 1]], [o0, r [i 0, i 2, i 1] 149 3, o1, o2, o3, o4, r [i 1, i 2] 3 1, r [i 1] 3 1, o0, r [i 1, i 2, i 1] 149 3, o6, o2, o3, r [] 211 5, o4, r [] 209 3, r [i 1, i 2] 3 1, r [i 1] 3 1], (u [g [i 3, i 1, q 18 0 2], i 0]), [o0]⟩
/-- peloton/driver.copied: 621 operations. -/
def e181 : Ent := ⟨30, [g [x .u8 (2), i 0, i 0, ns, i 0, ns, ns, ns, ns, ns, ns, ns, ns, i 3, i 1, q 0 0 2, i 1, q 1 0 1, q 2 0 200, q 3 0 200, q 4 0 200, ns, q 5 0 200, ns, q 6 0 2, s 7 0 1 1, i 0, i 0, ns, i 0, ns, ns, ns, ns, ns, ns, ns, i 0, ns, i 0, i 0, ns, i 0, ns, ns, ns, ns, ns, ns, ns, ns, i 3, i 1, q 8 0 2, i 2, q 9 0 1, q 10 0 200, q 11 0 200, q 12 0 200, s 13 0 0 0, q 14 0 200, s 15 0 0 0, q 16 0 2, q 17 0 1]], [o0, r [i 0, i 2, i 1] 149 3, o1, o2, o3, o4, r [i 1, i 2] 3 1, r [i 1] 3 1, o0, r [i 1, i 2, i 1] 149 3, o6, o2, o3, r [] 211 5, o4, r [] 209 3, r [i 1, i 2] 3 1, r [i 1] 3 1], (g [x .u8 (2), i 0, i 0, ns, i 0, ns, ns, ns, ns, ns, ns, ns, ns, i 3, i 1, q 18 0 2, i 1, q 19 0 1, q 20 0 200, q 21 0 200, q 22 0 200, ns, q 23 0 200, ns, q 24 0 2, q 25 0 1, i 0, i 0, ns, i 0, ns, ns, ns, ns, ns, ns, ns, i 0, ns, i 0, i 0, ns, i 0, ns, ns, ns, ns, ns, ns, ns, ns, i 3, i 1, q 26 0 2, i 2, q 27 0 1, q 28 0 200, q 29 0 200, q 30 0 200, s 31 0 0 0, q 32 0 200, s 33 0 0 0, q 34 0 2, q 35 0 1]), [o0, r [i 0, i 2, i 1] 149 3, o1, o2, o3, o4, r [i 1, i 2] 3 1, r [i 1] 3 1, o0, r [i 1, i 2, i 1] 149 3, o6, o2, o3, r [] 211 5, o4, r [] 209 3, r [i 1, i 2] 3 1, r [i 1] 3 1]⟩
/-- peloton/bracket.Check: 257 operations. -/
def e182 : Ent := ⟨170, [g [q 0 0 2, q 1 0 1]], [r [i 1, i 2] 3 1, r [i 1] 3 1], (i 0), []⟩
/-- peloton/ktourn.Check: 466 operations. -/
def e183 : Ent := ⟨112, [g [i 3, i 1, q 0 0 2, i 1, q 1 0 1, q 2 0 200, q 3 0 200, q 4 0 200, ns, q 5 0 200, ns, q 6 0 2, q 7 0 1]], [o0, r [i 0, i 2, i 1] 149 3, o1, o2, o3, o4, r [i 1, i 2] 3 1, r [i 1] 3 1], (i 0), []⟩
/-- peloton/choose.Check: 403 operations. -/
def e184 : Ent := ⟨61, [g [x .u8 (2), i 0, i 0, ns, i 0, ns, ns, ns, ns, ns, ns, ns, ns, i 3, i 1, q 0 0 2, i 1, q 1 0 1, q 2 0 200, q 3 0 200, q 4 0 200, ns, q 5 0 200, ns, q 6 0 2, q 7 0 1, i 0, i 0, ns, i 0, ns, ns, ns, ns, ns, ns, ns, i 0, ns, i 0, i 0, ns, i 0, ns, ns, ns, ns, ns, ns, ns, ns]], [o0, r [i 0, i 2, i 1] 149 3, o1, o2, o3, o4, r [i 1, i 2] 3 1, r [i 1] 3 1], (i 0), []⟩
/-- peloton/driver.Model: 214 operations. -/
def e185 : Ent := ⟨8, [g [x .u8 (2), i 0, i 0, ns, i 0, ns, ns, ns, ns, ns, ns, ns, ns, i 3, i 1, q 0 0 2, i 1, q 1 0 1, q 2 0 200, q 3 0 200, q 4 0 200, ns, q 5 0 200, ns, q 6 0 2, q 7 0 1, i 0, i 0, ns, i 0, ns, ns, ns, ns, ns, ns, ns, i 0, ns, i 0, i 0, ns, i 0, ns, ns, ns, ns, ns, ns, ns, ns, i 3, i 1, q 8 0 2, i 2, q 9 0 1, q 10 0 200, q 11 0 200, q 12 0 200, s 13 0 0 0, q 14 0 200, s 15 0 0 0, q 16 0 2, q 17 0 1]], [o0, r [i 0, i 2, i 1] 149 3, o1, o2, o3, o4, r [i 1, i 2] 3 1, r [i 1] 3 1, o0, r [i 1, i 2, i 1] 149 3, o6, o2, o3, r [] 211 5, o4, r [] 209 3, r [i 1, i 2] 3 1, r [i 1] 3 1], (u [g [i 3, i 1, q 18 0 2], i 0]), [o0]⟩
/-- peloton/driver.Run: 515 operations. -/
def e186 : Ent := ⟨10, [g [x .u8 (2), i 0, i 0, ns, i 0, ns, ns, ns, ns, ns, ns, ns, ns, i 3, i 1, q 0 0 2, i 1, q 1 0 1, q 2 0 200, q 3 0 200, q 4 0 200, ns, q 5 0 200, ns, q 6 0 2, s 7 0 1 1, i 0, i 0, ns, i 0, ns, ns, ns, ns, ns, ns, ns, i 0, ns, i 0, i 0, ns, i 0, ns, ns, ns, ns, ns, ns, ns, ns, i 3, i 1, q 8 0 2, i 2, q 9 0 1, q 10 0 200, q 11 0 200, q 12 0 200, s 13 0 0 0, q 14 0 200, s 15 0 0 0, q 16 0 2, q 17 0 1], s 18 14 2 2], [o0, r [i 0, i 2, i 1] 149 3, o1, o2, o3, o4, r [i 1, i 2] 3 1, r [i 1] 3 1, o0, r [i 1, i 2, i 1] 149 3, o6, o2, o3, r [] 211 5, o4, r [] 209 3, r [i 1, i 2] 3 1, r [i 1] 3 1, o13], (u [g [x .u8 (2), i 0, i 0, ns, i 0, ns, ns, ns, ns, ns, ns, ns, ns, i 3, i 1, q 19 0 2, i 1, q 20 0 1, q 21 0 200, q 22 0 200, q 23 0 200, ns, q 24 0 200, ns, q 25 0 2, q 26 0 1, i 0, i 0, ns, i 0, ns, ns, ns, ns, ns, ns, ns, i 0, ns, i 0, i 0, ns, i 0, ns, ns, ns, ns, ns, ns, ns, ns, i 3, i 1, q 27 0 2, i 2, q 28 0 1, q 29 0 200, q 30 0 200, q 31 0 200, s 32 0 0 0, q 33 0 200, s 34 0 0 0, q 35 0 2, q 36 0 1], q 37 0 2, i 0]), [o0, r [i 0, i 2, i 1] 149 3, o1, o2, o3, o4, r [i 1, i 2] 3 1, r [i 1] 3 1, o0, r [i 1, i 2, i 1] 149 3, o6, o2, o3, r [] 211 5, o4, r [] 209 3, r [i 1, i 2] 3 1, r [i 1] 3 1, r [i 0, i 1, i 0, i 6, i 1, ns, i 0, i 1, i 2, i 3, i 1, ns] 72 6]⟩
/-- peloton/pelotonref12.SameAll: 292 operations. -/
def e187 : Ent := ⟨36, [q 0 0 4, s 1 0 4 4], [r [i 0, i 2, i 0, i 6, i 1, ns, i 0, i 0, i 0, i 0, i 0, s 2 0 1 1, i 0, i 1, i 0, i 6, i 1, ns, i 0, i 1, i 2, i 3, i 1, ns] 72 6, r [i 0, i 2, i 0, i 6, i 1, ns, i 0, i 0, i 0, i 0, i 0, s 3 0 1 1, i 0, i 1, i 0, i 6, i 1, ns, i 0, i 1, i 2, i 3, i 1, ns] 72 6, o12, o12], t, []⟩
/-- peloton/pelotonlaw38.alive: 440 operations. -/
def e188 : Ent := ⟨16, [], [], t, []⟩
/-- peloton/pelotonlaw38.DriverNames: 4166 operations. -/
def e189 : Ent := ⟨3, [], [], t, []⟩
end Go.Proofs.YtcblamejajbkjaaGreat
