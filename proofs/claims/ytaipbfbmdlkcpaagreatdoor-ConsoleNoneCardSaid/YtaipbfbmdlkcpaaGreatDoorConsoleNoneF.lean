/-
  PROVED HERE: facts of the row of ConsoleNone that hang on which functions it reaches. Conditions: none.
-/
import Derived.KernelRfl
import Derived.Test.YtaipbfbmdlkcpaaGreatDoorRows
import Derived.Test.YtaipbfbmdlkcpaaGreatDoorProg
namespace Go.Proofs.YtaipbfbmdlkcpaaGreatDoor.consoleNone
/-- the closure of a function, with those that were seen as bits -/
noncomputable def clS (P : Program) (ih : List Nat → Nat → List Nat → List Nat) (f : Nat) (todo : List Nat) (mask : Nat) (seen : List Nat) : List Nat :=
  match Nat.beq (Nat.land (Nat.shiftRight mask f) 1) 1 with
  | true => ih todo mask seen
  | false => ih (((P.funcs[f]?).elim [] P.leadsTo) ++ todo) (Nat.lor mask (Nat.pow 2 f)) (f :: seen)
noncomputable def clN (P : Program) (ih : List Nat → Nat → List Nat → List Nat) (todo : List Nat) (mask : Nat) (seen : List Nat) : List Nat :=
  match todo with
  | [] => seen.reverse
  | f :: todo => clS P ih f todo mask seen
noncomputable def clB (P : Program) (n : Nat) : List Nat → Nat → List Nat → List Nat :=
  Nat.rec (motive := fun _ => List Nat → Nat → List Nat → List Nat) (fun _ _ seen => seen.reverse) (fun _ ih => clN P ih) n
theorem bit_is (m f : Nat) : Nat.beq (Nat.land (Nat.shiftRight m f) 1) 1 = m.testBit f := by
  have h : Nat.land (Nat.shiftRight m f) 1 = (m >>> f) % 2 := Nat.and_one_is_mod _
  rw [h, Nat.testBit_eq_decide_div_mod_eq, Nat.shiftRight_eq_div_pow]
  cases hb : Nat.beq (m / 2 ^ f % 2) 1 with
  | true => simp [Nat.eq_of_beq_eq_true hb]
  | false => have := Nat.ne_of_beq_eq_false hb; simp [this]
theorem clB_eq (P : Program) : ∀ (n : Nat) (todo : List Nat) (mask : Nat) (seen : List Nat), (∀ x, mask.testBit x = seen.contains x) → clB P n todo mask seen = P.closureVia n todo seen
  | 0, _, _, _, _ => rfl
  | n + 1, [], _, _, _ => rfl
  | n + 1, f :: todo, mask, seen, h => by
    show clS P (clB P n) f todo mask seen = if seen.contains f then P.closureVia n todo seen else P.closureVia n ((P.funcs[f]?).elim [] P.leadsTo ++ todo) (f :: seen)
    unfold clS
    rw [bit_is, h f]
    cases hc : seen.contains f with
    | true => simp only [if_true]; exact clB_eq P n todo mask seen h
    | false =>
      simp only [Bool.false_eq_true, if_false]
      refine clB_eq P n _ _ _ fun x => ?_
      show (mask ||| 2 ^ f).testBit x = _
      rw [Nat.testBit_or, h x, Nat.testBit_two_pow, List.contains_cons]
      by_cases e : f = x
      · subst e; simp
      · have e' : (x == f) = false := by simpa using fun he => e he.symm
        simp [e, e']
set_option maxRecDepth 1000000 in
theorem closureIs : Tryz.prog.closure 3 = [3, 5, 10, 21, 44, 86, 174, 175, 248, 247, 249, 176, 177, 250, 251, 317, 318, 20, 43, 83, 172, 245, 173, 246, 84, 85, 11, 12, 22, 45, 87, 88, 178, 46, 89, 47, 90, 81, 171, 179, 180, 181, 252, 13, 23, 48, 91, 182, 253, 299, 344, 345, 183, 254, 319, 255, 256, 92, 184, 258, 320, 257, 15, 49, 93, 185, 94, 99, 186, 259, 127, 95, 187, 260, 261, 321, 131, 208, 280, 338, 96, 97, 188, 189, 98, 100, 101, 50, 51, 102, 190, 191, 262, 192, 58, 111, 112, 195, 120, 122, 126, 207, 125, 264, 265, 116, 205, 204, 279, 196, 266, 267, 124, 121, 206, 197, 268, 269, 128, 198, 270, 322, 274, 271, 323, 199, 272, 273, 324, 367, 366, 200, 275, 325, 368, 369, 326, 327, 370, 404, 411, 430, 410, 114, 203, 113, 201, 276, 202, 278, 337, 277, 328, 334, 376, 329, 371, 330, 372, 373, 331, 374, 375, 412, 332, 333, 335, 336, 115, 110, 194, 24, 25, 52, 80, 170, 238, 300, 164, 234, 163, 301, 346, 302, 347, 389, 390, 417, 432, 433, 458, 426, 434, 425, 459, 482, 513, 483, 455, 460, 461, 402, 422, 451, 423, 454, 453, 452, 456, 435, 437, 362, 464, 457, 211, 108, 481, 511, 529, 530, 531, 549, 550, 551, 568, 578, 354, 567, 577, 533, 134, 135, 512, 465, 419, 443, 472, 496, 399, 473, 497, 517, 541, 561, 562, 574, 575, 576, 498, 518, 519, 489, 365, 520, 521, 542, 487, 441, 444, 474, 303, 499, 348, 397, 500, 522, 543, 523, 349, 544, 563, 525, 545, 502, 524, 503, 526, 506, 528, 548, 504, 527, 507, 546, 565, 564, 463, 485, 486, 514, 515, 532, 547, 566, 516, 475, 466, 488, 534, 552, 569, 579, 535, 501, 427, 553, 570, 559, 573, 580, 583, 588, 582, 586, 589, 584, 591, 592, 593, 594, 595, 596, 581, 585, 587, 536, 554, 555, 556, 572, 571, 557, 590, 558, 539, 560, 505, 462, 484, 436, 537, 538, 540, 391, 392, 418, 439, 440, 442, 467, 490, 491, 438, 468, 492, 469, 470, 471, 493, 494, 495, 393, 394, 420, 445, 476, 477, 478, 508, 395, 396, 421, 447, 448, 449, 450, 479, 509, 510, 446, 480, 239, 304, 350, 352, 351, 305, 353, 65, 286, 240, 306, 241, 307, 133, 210, 282, 209, 281, 149, 214, 56, 109, 242, 308, 355, 398, 356, 360, 309, 310, 357, 311, 358, 359, 400, 401, 403, 424, 361, 405, 406, 312, 363, 407, 243, 76, 313, 364, 408, 151, 409, 428, 429, 314, 315, 316, 244, 67, 139, 140, 141, 142, 143, 144, 145, 213, 285, 339, 377, 378, 340, 379, 341, 146, 147, 39, 26, 16, 53, 103, 68, 104, 75, 106, 107, 193, 263, 105, 27, 55, 54, 72, 71, 152, 154, 216, 235, 217, 37, 77, 78, 79, 165, 166, 167, 169, 237, 168, 236, 41, 215, 287, 153, 155, 218, 28, 57, 29, 30, 59, 117, 118, 60, 119, 123, 61, 129, 130, 132, 31, 62, 63, 32, 64, 136, 33, 34, 66, 137, 138, 212, 283, 284, 69, 35, 70, 148, 150, 36, 73, 74, 156, 219, 162, 233, 220, 157, 221, 161, 231, 160, 232, 295, 223, 290, 222, 288, 342, 289, 343, 380, 386, 416, 381, 413, 382, 383, 414, 415, 431, 384, 385, 387, 388, 158, 224, 291, 292, 226, 296, 225, 293, 294, 228, 297, 298, 227, 230, 229, 159, 14, 38, 4, 6, 7, 17, 40, 18, 42, 82, 8, 9, 19] :=
  (clB_eq Tryz.prog _ _ 0 [] (by simp)).symm.trans (by kernel_rfl)
set_option maxRecDepth 1000000 in
theorem inPlaceIs : Tryz.prog.inPlace 3 = Rows.consoleNoneRow.inPlace := by unfold Program.inPlace; rw [closureIs]; kernel_rfl
set_option maxRecDepth 1000000 in
theorem unfollowedIs : Tryz.prog.unfollowed 3 = Rows.consoleNoneRow.unfollowed := by unfold Program.unfollowed; rw [closureIs]; kernel_rfl
set_option maxRecDepth 1000000 in
theorem recursesIs : Tryz.prog.recurses 3 = Rows.consoleNoneRow.recurses := by unfold Program.recurses; rw [unfollowedIs, closureIs]; kernel_rfl
set_option maxRecDepth 1000000 in
theorem namedIs : Tryz.prog.varsNamed 3 = Rows.consoleNoneRow.named := by unfold Program.varsNamed; rw [closureIs]; kernel_rfl
end Go.Proofs.YtaipbfbmdlkcpaaGreatDoor.consoleNone
