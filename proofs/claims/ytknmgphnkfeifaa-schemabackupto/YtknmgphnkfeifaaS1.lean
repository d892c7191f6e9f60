import Derived.Test.YtknmgphnkfeifaaProg
import Derived.Test.YtknmgphnkfeifaaAbRow
namespace Go.Ab.S1
open Go Go.Ab
open Go.Proofs.Try
set_option maxRecDepth 100000
def M : Nat → Mode
  | 21 => .byref
  | 22 => .own
  | 23 => .byref
  | 25 => .byref
  | 27 => .byref
  | 29 => .byref
  | 32 => .own
  | 33 => .byref
  | 34 => .byref
  | 35 => .byref
  | 36 => .byref
  | 37 => .byref
  | 38 => .byref
  | 39 => .byref
  | 40 => .byref
  | 41 => .byref
  | 43 => .byref
  | 45 => .byref
  | 52 => .byref
  | 53 => .byref
  | 54 => .byref
  | 55 => .byref
  | _ => .pure
def K2 : Nat → List Nat
  | 0 => [0]
  | _ => []
def K3 : Nat → List Nat
  | 0 => [0, 6]
  | 2 => [7, 8, 9, 10, 11, 12, 13, 14, 15, 16, 17]
  | 4 => [1, 2, 3, 18]
  | 6 => [1, 2, 3, 18, 19, 20, 21, 22, 23, 24, 25, 26, 27, 28, 29, 30, 31, 32, 33, 34, 35, 36, 37, 38, 39, 40, 41, 42, 43, 44, 45, 46, 47, 48, 49, 50, 51]
  | _ => []
def K4 : Nat → List Nat
  | 0 => [12]
  | 2 => [16, 17, 18, 19, 20, 21, 22]
  | 4 => [0, 1, 2, 3, 4, 5, 23]
  | 6 => [23, 24, 25, 26]
  | 8 => [0, 27, 28]
  | 10 => [2, 3, 29, 30, 31, 32, 33, 34, 35, 36, 37, 38, 39, 40, 41, 42, 43, 44, 45, 46, 47, 48, 49, 50, 51, 52, 53, 54, 55, 56, 57, 58, 59, 60, 61, 62]
  | 12 => [1, 4, 5, 13, 14, 15, 63, 64, 65, 66, 67, 68, 69, 70, 71, 72, 73, 74, 75, 76, 77, 78, 79, 80, 81, 82, 83, 84, 85, 86, 87, 88, 89, 90, 91, 92, 93, 94, 95, 96, 97, 98]
  | _ => []
def K5 : Nat → List Nat
  | 0 => [8]
  | 2 => [12]
  | 4 => [0, 1, 2, 3, 13]
  | 6 => [13, 14, 15, 16, 17, 18]
  | 8 => [19]
  | 10 => [0, 1, 2, 3, 9, 20]
  | 12 => [20, 21, 22, 23]
  | 14 => [0, 1, 9, 10, 24, 25, 26, 27, 28, 29, 30, 31, 32, 33, 34, 35, 36, 37, 38, 39, 40, 41, 42, 43, 44, 45, 46, 47, 48, 49, 50, 51, 52, 53, 54, 55, 56, 57, 58, 59, 60, 61, 62, 63, 64]
  | 16 => [2, 3, 65]
  | 18 => [65, 66, 67]
  | 20 => [2, 3, 68]
  | 22 => [68, 69, 70, 71]
  | 24 => [72]
  | 26 => [2, 3, 9, 73]
  | 28 => [73, 74, 75, 76]
  | 30 => [3, 77, 78, 79, 80, 81, 82, 83, 84]
  | 32 => [2, 9, 11, 85, 86, 87, 88, 89, 90, 91, 92]
  | 34 => [2, 9, 11, 85, 93, 94, 95, 96, 97, 98, 99, 100]
  | _ => []
def K6 : Nat → List Nat
  | 0 => [2]
  | 2 => [9]
  | 4 => [0, 10]
  | 6 => [10, 11, 12]
  | 8 => [0, 13]
  | 10 => [13, 14, 15, 16, 17, 18, 19]
  | 12 => [20, 21, 22, 23, 24, 25, 26, 27, 28]
  | 14 => [0, 3, 4, 5, 29]
  | 16 => [29, 30, 31, 32, 33, 34, 35]
  | 18 => [3, 6, 36, 37, 38, 39, 40, 41, 42, 43, 44, 45]
  | 20 => [0, 4, 5, 7, 8, 46]
  | 22 => [4, 7, 46, 47, 48, 49, 50, 51, 52, 53, 54, 55, 56]
  | 24 => [0, 5, 8, 57]
  | 26 => [0, 5, 8, 57, 58, 59, 60, 61, 62, 63, 64, 65, 66, 67, 68]
  | _ => []
def K7 : Nat → List Nat
  | 0 => [2]
  | 2 => [5, 6]
  | 6 => [10, 11, 12]
  | 8 => [4, 13, 14, 15, 16, 17, 18, 19, 20, 21, 22, 23, 24, 25, 26, 27, 28, 29, 30, 31, 32, 33, 34, 35, 36, 37, 38, 39, 40, 41, 42, 43, 44, 45, 46, 47, 48, 49, 50, 51, 52, 53, 54, 55, 56, 57, 58, 59]
  | 10 => [0, 7, 8, 9, 60]
  | 12 => [60, 61]
  | 14 => [0, 7, 8, 9, 10, 62]
  | _ => []
def K8 : Nat → List Nat
  | 0 => [10]
  | 2 => [14]
  | 4 => [0, 1, 2, 3, 4, 15]
  | 6 => [15, 16, 17, 18, 19, 20, 21, 22]
  | 8 => [0, 1, 2, 3, 4, 23]
  | 10 => [23, 24, 25]
  | 12 => [26, 27, 28, 29, 30]
  | 14 => [31, 32, 33, 34, 35]
  | 16 => [11, 36, 37, 38, 39]
  | 18 => [1, 2, 40, 41, 42, 43, 44, 45, 46, 47, 48, 49, 50, 51, 52, 53, 54, 55, 56, 57, 58, 59, 60, 61]
  | 20 => [0, 3, 4, 12, 62]
  | 22 => [62, 63, 64]
  | 24 => [3, 13, 65, 66, 67, 68, 69, 70, 71, 72, 73, 74, 75, 76, 77, 78, 79, 80, 81, 82, 83, 84, 85, 86, 87, 88, 89]
  | 26 => [0, 4, 12, 90]
  | 28 => [0, 4, 12, 90, 91, 92, 93, 94, 95, 96, 97, 98, 99, 100, 101, 102, 103, 104, 105, 106, 107]
  | _ => []
def K9 : Nat → List Nat
  | 0 => [2]
  | 2 => [7]
  | 4 => [0, 8]
  | 6 => [8, 9, 10]
  | 8 => [0, 11]
  | 10 => [11, 12, 13]
  | 12 => [14, 15, 16, 17, 18]
  | 14 => [5, 19]
  | 16 => [0, 3, 4, 20, 21, 22, 23]
  | 18 => [3, 20, 24, 25, 26, 27, 28]
  | 20 => [0, 4, 6, 29, 30, 31, 32, 33, 34, 35, 36, 37, 38, 39, 40, 41, 42, 43, 44, 45]
  | _ => []
def K10 : Nat → List Nat
  | 0 => [0, 4]
  | 2 => [10]
  | 4 => [1, 2, 11]
  | 6 => [11, 12, 13, 14, 15, 16, 17, 18, 19, 20, 21, 22]
  | 8 => [1, 2, 23]
  | 10 => [23, 24, 25, 26, 27, 28]
  | 12 => [29, 30, 31, 32, 33]
  | 14 => [1, 5, 6, 7, 34, 35, 36, 37, 38, 39, 40, 41, 42, 43, 44, 45, 46, 47]
  | 16 => [2, 48]
  | 18 => [48, 49]
  | 22 => [53, 54, 55, 56]
  | 24 => [8, 9, 57, 58, 59, 60, 61, 62, 63, 64, 65, 66, 67]
  | 26 => [2, 50, 51, 52, 68]
  | 28 => [68, 69]
  | 30 => [2, 50, 51, 52, 53, 70, 71, 72, 73, 74, 75, 76, 77, 78, 79, 80, 81, 82, 83, 84, 85]
  | _ => []
def K11 : Nat → List Nat
  | 0 => [0, 2]
  | 2 => [5, 6, 7, 8, 9, 10, 11, 12, 13]
  | 4 => [1, 14]
  | 6 => [1, 14, 15]
  | 10 => [19, 20, 21]
  | 12 => [4, 22, 23, 24]
  | 14 => [16, 17, 18, 25]
  | 16 => [25, 26]
  | 18 => [16, 17, 18, 19]
  | _ => []
def K12 : Nat → List Nat
  | 0 => [2]
  | 2 => [6]
  | 6 => [9, 10]
  | 8 => [11, 12, 13]
  | 10 => [14, 15, 16, 17, 18, 19, 20, 21, 22, 23]
  | 12 => [3, 4, 5, 24, 25, 26, 27, 28, 29, 30, 31, 32, 33, 34, 35, 36]
  | 14 => [0, 7, 8, 37]
  | 16 => [37, 38]
  | 18 => [0, 7, 8, 9, 39, 40, 41, 42, 43, 44, 45, 46]
  | _ => []
def K13 : Nat → List Nat
  | 0 => [2]
  | 2 => [6, 7, 8, 9, 10, 11]
  | 4 => [0, 12]
  | 6 => [12]
  | 8 => [13, 14, 15]
  | 10 => [17, 18, 57]
  | 12 => [16, 19, 20, 21, 22, 23, 24, 25, 26, 27, 28]
  | 14 => [29, 30, 31, 32, 33, 34, 35, 36, 37, 38]
  | 16 => [4, 5, 39, 40, 41, 42, 43, 44, 45, 46, 47, 48, 49, 50, 51, 52, 53, 54, 55, 56]
  | 18 => [0, 3, 57]
  | 20 => [0, 3, 16]
  | _ => []
def K14 : Nat → List Nat
  | 0 => [0, 2]
  | 2 => [7, 8, 9, 10, 11, 12, 13, 14, 15, 16, 17, 18, 19, 20, 21]
  | 4 => [1, 22]
  | 6 => [22, 23]
  | 10 => [1, 24]
  | 14 => [28, 29, 30]
  | 16 => [31, 32, 33, 34, 35, 36, 37, 38, 39, 40, 41, 42, 43]
  | 18 => [3, 4, 6, 25, 26, 27, 44]
  | 20 => [44, 45, 46, 47, 48, 49, 50, 51]
  | 22 => [6, 52, 53, 54]
  | 24 => [55]
  | 26 => [3, 4, 25, 26, 27, 28]
  | 28 => [56]
  | 30 => [56]
  | _ => []
def K15 : Nat → List Nat
  | 0 => [0, 2]
  | 2 => [5, 6, 7, 8, 9, 10, 11, 12, 13, 14, 15, 16, 17, 18, 19]
  | 4 => [1, 20]
  | 6 => [20]
  | 8 => [21, 22, 23, 24]
  | 10 => [26, 27, 53]
  | 12 => [25, 28, 29, 30, 31, 32, 33, 34, 35, 36, 37, 38, 39, 40, 41, 42, 43, 44, 45, 46, 47, 48, 49, 50, 51, 52]
  | 14 => [1, 3, 53]
  | 16 => [3, 25]
  | 18 => [54, 55, 56, 57]
  | 20 => [59, 60, 70]
  | 22 => [58, 61, 62, 63, 64, 65, 66, 67, 68, 69]
  | 24 => [1, 4, 70]
  | 26 => [1, 4, 58]
  | _ => []
def K16 : Nat → List Nat
  | 0 => [0, 1, 4]
  | 2 => [2, 3, 5, 6, 7, 8]
  | _ => []
def K17 : Nat → List Nat
  | 0 => [0, 4]
  | 4 => [6, 7, 8, 9]
  | 6 => [11, 12, 20]
  | 8 => [10, 13, 14, 15, 16, 17, 18, 19]
  | 10 => [1, 2, 5, 20, 21]
  | 12 => [1, 2, 5, 10]
  | _ => []
def K18 : Nat → List Nat
  | 0 => [0, 4]
  | 2 => [7, 8, 9, 10, 11, 12, 13, 14, 15, 16]
  | 4 => [1, 2, 17]
  | 6 => [1, 17]
  | 10 => [21, 22, 23, 24]
  | 12 => [5, 6, 25, 26, 27, 28, 29, 30, 31, 32, 33, 34, 35, 36, 37]
  | 14 => [2, 18, 19, 20, 38]
  | 16 => [38, 39]
  | 18 => [2, 18, 19, 20, 21]
  | _ => []
def K19 : Nat → List Nat
  | 0 => [0, 4]
  | 2 => [6, 7, 8, 9, 10, 11, 12, 13, 14, 15]
  | 4 => [1, 2, 16]
  | 6 => [16]
  | 8 => [17, 18, 19]
  | 10 => [21, 22, 50]
  | 12 => [20, 23, 24, 25, 26, 27, 28, 29, 30, 31, 32, 33, 34, 35, 36, 37, 38, 39, 40, 41, 42, 43, 44, 45, 46, 47, 48, 49]
  | 14 => [1, 2, 5, 50]
  | 16 => [1, 2, 5, 20]
  | _ => []
def K20 : Nat → List Nat
  | 0 => [0]
  | 2 => [3, 4]
  | 4 => [1, 2, 5, 6, 7, 8, 9, 10, 11, 12, 13, 14, 15, 16, 17, 18, 19, 20, 21, 22, 23]
  | _ => []
def K21 : Nat → List Nat
  | 0 => [4]
  | 2 => [5]
  | 4 => [6, 7, 8, 9, 10, 11, 12]
  | 6 => [13, 14]
  | 8 => [0, 1, 6, 15, 16, 17, 18, 19]
  | _ => []
def K22 : Nat → List Nat
  | 0 => [2]
  | 2 => [3]
  | 4 => [0, 4, 5, 6, 7]
  | 6 => [0, 4, 8, 9, 10, 11, 12, 13, 14, 15, 16]
  | _ => []
def K23 : Nat → List Nat
  | 0 => [4]
  | 2 => [6, 7, 8]
  | 4 => [1, 9]
  | 6 => [10, 11, 12]
  | 8 => [0, 5, 10, 13, 14, 15]
  | _ => []
def K24 : Nat → List Nat
  | 0 => [2]
  | 2 => [3]
  | 4 => [0, 4, 5, 6, 7, 8, 9, 10, 11]
  | 6 => [0, 4, 12, 13, 14, 15]
  | _ => []
def K25 : Nat → List Nat
  | 0 => [4]
  | 2 => [0, 1, 5, 6, 7, 8, 9, 10, 11]
  | _ => []
def K26 : Nat → List Nat
  | 0 => [2]
  | 2 => [0, 3, 4, 5, 6, 7, 8, 9]
  | _ => []
def K27 : Nat → List Nat
  | 0 => [4]
  | 2 => [0, 1, 5, 6, 7, 8]
  | _ => []
def K28 : Nat → List Nat
  | 0 => [2]
  | 2 => [0, 3, 4, 5]
  | _ => []
def K29 : Nat → List Nat
  | 0 => [6]
  | 2 => [2, 8, 9, 10, 11]
  | 4 => [12]
  | 6 => [14, 15]
  | 8 => [13, 16, 17, 18, 19, 20, 21, 22, 23, 24]
  | 10 => [0, 1, 7, 13, 25]
  | _ => []
def K30 : Nat → List Nat
  | 0 => [4]
  | 2 => [7]
  | 4 => [8]
  | 6 => [8]
  | 10 => [9, 10]
  | 12 => [12, 13]
  | 14 => [11, 14, 15, 16, 17, 18, 19]
  | 16 => [20, 21]
  | 18 => [0, 1, 5, 6, 11, 22]
  | _ => []
def K31 : Nat → List Nat
  | 0 => [0]
  | 2 => [6]
  | 4 => [7]
  | 6 => [8, 9, 10, 11, 12, 13]
  | 8 => [1, 2, 14, 15, 16, 17, 18, 19, 20, 21, 22, 23, 24, 25, 26, 27, 28, 29, 30, 31, 32]
  | 10 => [3, 4, 5, 33]
  | 12 => [3, 4, 5, 33, 34, 35, 36, 37, 38, 39, 40, 41, 42, 43, 44, 45, 46, 47, 48, 49, 50, 51, 52, 53, 54, 55, 56, 57, 58, 59, 60, 61]
  | _ => []
def K32 : Nat → List Nat
  | 0 => [2]
  | 2 => [0, 3, 4, 5]
  | _ => []
def K33 : Nat → List Nat
  | 0 => [4]
  | 2 => [7, 8]
  | 4 => [0, 1, 9]
  | 6 => [9, 10, 11, 12, 13, 14]
  | 8 => [1, 6, 15, 16, 17, 18, 19]
  | 10 => [0, 5, 20, 21, 22]
  | 14 => [0, 5, 20, 23]
  | _ => []
def K34 : Nat → List Nat
  | 0 => [2]
  | 2 => [3, 4, 5, 6, 7, 8, 9, 10]
  | 4 => [0, 11]
  | 6 => [0, 11, 12, 13, 14, 15]
  | _ => []
def K35 : Nat → List Nat
  | 0 => [2]
  | 2 => [0, 3, 4, 5]
  | _ => []
def K36 : Nat → List Nat
  | 0 => [2]
  | 2 => [3, 4]
  | 4 => [0, 5]
  | 6 => [0, 5, 6, 7, 8, 9, 10]
  | _ => []
def K37 : Nat → List Nat
  | 0 => [4]
  | 2 => [1, 8, 9, 10, 11, 12]
  | 4 => [13, 14]
  | 6 => [0, 5, 15]
  | 8 => [0, 5, 7, 15, 16, 17, 18, 19, 20, 21, 22]
  | 10 => [6, 23, 24]
  | _ => []
def K38 : Nat → List Nat
  | 0 => [2]
  | 2 => [4, 5]
  | 4 => [6]
  | 6 => [0, 3, 7, 8]
  | 8 => [0, 3, 7, 9, 10, 11, 12, 13]
  | 10 => [14]
  | 12 => [14]
  | _ => []
def K39 : Nat → List Nat
  | 0 => [2]
  | 2 => [0, 4, 5]
  | 4 => [6, 7]
  | 6 => [3, 8, 9, 10, 11, 12]
  | 8 => [3, 8, 13, 14, 15]
  | _ => []
def K40 : Nat → List Nat
  | 0 => [2]
  | 2 => [5, 6]
  | 4 => [7, 8]
  | 6 => [0, 3, 9]
  | 8 => [9, 10, 11]
  | 10 => [3, 12, 13, 14]
  | 12 => [0, 4, 15, 16, 17]
  | 16 => [0, 4, 15, 18]
  | _ => []
def K41 : Nat → List Nat
  | 0 => [4]
  | 2 => [10, 11]
  | 4 => [0, 1, 12]
  | 6 => [0, 1, 6, 12, 13, 14, 15, 16, 17, 18, 19, 20]
  | 10 => [5]
  | 14 => [24, 25, 26]
  | 16 => [9, 27, 28, 29, 30, 31]
  | 18 => [32]
  | 20 => [7, 21, 22, 23, 24, 33]
  | _ => []
def K42 : Nat → List Nat
  | 0 => [2]
  | 2 => [0, 3, 4, 5, 6]
  | _ => []
def K43 : Nat → List Nat
  | 0 => [3]
  | 2 => [7, 8, 9]
  | 4 => [10]
  | 8 => [13, 14, 15, 16]
  | 10 => [17, 18, 19, 20]
  | 12 => [5, 21, 22, 23, 24, 25, 26]
  | 14 => [27]
  | 16 => [0, 11, 12, 13, 28, 29]
  | 18 => [30]
  | 20 => [31, 32, 33]
  | 22 => [31, 34]
  | 24 => [4, 6, 35, 36, 37]
  | 26 => [4, 6, 35, 38]
  | _ => []
def K44 : Nat → List Nat
  | 0 => [0, 1, 4]
  | 2 => [2, 3, 5, 6, 7, 8, 9, 10, 11, 12, 13, 14, 15, 16]
  | _ => []
def K45 : Nat → List Nat
  | 0 => [1, 4]
  | 2 => [7, 8, 9, 10]
  | 4 => [11, 12, 13, 14, 15, 16]
  | 6 => [3, 17]
  | 10 => [21, 22, 23]
  | 12 => [6, 24, 25, 26, 27, 28, 29, 30, 31, 32]
  | 14 => [33]
  | 16 => [0, 18, 19, 20, 21, 34]
  | _ => []
def K46 : Nat → List Nat
  | 0 => [4]
  | 2 => [6]
  | 6 => [9, 10]
  | 8 => [11, 12, 13, 14, 15]
  | 10 => [0, 1, 5, 7, 8, 16, 17]
  | 12 => [5, 16, 18]
  | 14 => [0, 1, 7, 8, 9]
  | _ => []
def K47 : Nat → List Nat
  | 0 => [0, 3]
  | 2 => [1, 2, 4, 5, 6, 7]
  | _ => []
def K48 : Nat → List Nat
  | 0 => [2]
  | 2 => [0, 3, 4, 5, 6, 7, 8, 9, 10]
  | _ => []
def K49 : Nat → List Nat
  | 0 => [0, 2]
  | 2 => [3]
  | 4 => [6]
  | 6 => [1, 4, 5, 7, 8, 9, 10, 11, 12, 13, 14, 15, 16, 17, 18, 19]
  | 8 => [5, 21]
  | 10 => [1, 4, 20, 22, 23, 24, 25, 26, 27, 28, 29, 30, 31, 32, 33, 34, 35, 36, 37, 38, 39]
  | 12 => [20, 41]
  | 14 => [1, 4, 40, 42, 43, 44, 45, 46, 47, 48, 49]
  | 16 => [40, 51]
  | 18 => [1, 4, 50, 52, 53, 54, 55, 56, 57, 58, 59]
  | 20 => [4, 50, 61]
  | 22 => [1, 60, 62, 63, 64, 65, 66, 67, 68, 69, 70, 71, 72, 73, 74, 75]
  | 24 => [1, 60]
  | _ => []
def K50 : Nat → List Nat
  | 0 => [2]
  | 2 => [4, 5, 6]
  | 4 => [0, 3]
  | 6 => [3, 8, 9]
  | 8 => [0, 7]
  | 10 => [0, 7, 10, 11]
  | _ => []
def K51 : Nat → List Nat
  | 0 => [2]
  | 2 => [3, 4]
  | 4 => [0, 5]
  | 6 => [5, 6]
  | 8 => [0, 7]
  | 10 => [0, 7, 8, 9]
  | _ => []
def K52 : Nat → List Nat
  | 0 => [2]
  | 2 => [0, 3, 4, 5, 6, 7, 8, 9, 10, 11, 12, 13, 14, 15, 16, 17]
  | _ => []
def K53 : Nat → List Nat
  | 0 => [3]
  | 6 => [9, 10, 47]
  | 8 => [11]
  | 10 => [12, 13, 14, 15, 16, 17]
  | 12 => [7, 18]
  | 14 => [0, 4, 5, 6, 19]
  | 16 => [6, 19, 20, 21, 22]
  | 18 => [23, 24, 25, 26, 27, 28, 29, 30, 31, 32, 33, 34, 35]
  | 20 => [36, 37, 38, 39, 40, 41, 42, 43, 44, 45]
  | 22 => [8, 46]
  | 24 => [0, 4, 5, 47, 48]
  | 26 => [0, 2, 4, 5, 8, 12, 36, 49, 50, 51]
  | _ => []
def K54 : Nat → List Nat
  | 0 => [0, 1, 4, 5, 6, 7, 8, 9, 10]
  | _ => []
def K55 : Nat → List Nat
  | 0 => [4, 5]
  | 2 => [7, 8, 9, 10, 11, 12]
  | 4 => [0, 1, 13, 14, 15]
  | 8 => [13, 16, 17, 18, 19, 20, 21]
  | 10 => [0, 1, 22, 23, 24, 25, 26, 27, 28, 29, 30]
  | 12 => [6, 31]
  | _ => []
def K58 : Nat → List Nat
  | 0 => [4]
  | 2 => [6, 7, 8, 9]
  | 4 => [0, 1, 10]
  | 6 => [10, 11]
  | 10 => [14, 15]
  | 12 => [5, 16, 17, 18, 19, 20, 21, 22, 23]
  | 14 => [0, 1, 12, 13, 24]
  | 16 => [24, 25]
  | 18 => [0, 1, 12, 13, 14]
  | _ => []
def K59 : Nat → List Nat
  | 0 => [4]
  | 2 => [0, 1, 5, 6, 7, 8]
  | _ => []
def K60 : Nat → List Nat
  | 0 => [0, 2]
  | 2 => [1, 3, 4, 5]
  | _ => []
def K61 : Nat → List Nat
  | 0 => [0, 2]
  | 2 => [4, 5, 6, 7, 8, 9, 10, 11, 12]
  | 4 => [13]
  | 6 => [16]
  | 8 => [15, 18]
  | 10 => [17, 20]
  | 12 => [19, 22]
  | 14 => [14, 21, 24]
  | 16 => [1, 3, 14, 15, 25, 26, 27, 28, 29, 30, 31, 32, 33, 34, 35]
  | 18 => [14, 17, 36, 37, 38, 39, 40, 41, 42]
  | 20 => [1, 3, 43]
  | 22 => [1, 3, 14, 19, 43, 44, 45, 46, 47, 48, 49]
  | 24 => [1, 3, 14, 21, 50, 51, 52, 53, 54, 55, 56, 57]
  | 26 => [1, 3, 23, 58, 59, 60, 61, 62, 63, 64, 65, 66, 67, 68, 69]
  | 28 => [1, 3, 23]
  | _ => []
def K62 : Nat → List Nat
  | 0 => [2]
  | 2 => [0, 3, 4, 5, 6, 7, 8, 9]
  | _ => []
def K63 : Nat → List Nat
  | 0 => [4]
  | 2 => [6]
  | 6 => [9, 10]
  | 8 => [11, 12, 13, 14, 15]
  | 10 => [0, 1, 5, 7, 8, 16, 17]
  | 12 => [5, 16, 18]
  | 14 => [0, 1, 7, 8, 9]
  | _ => []
def K : Nat → Nat → List Nat
  | 2 => K2
  | 3 => K3
  | 4 => K4
  | 5 => K5
  | 6 => K6
  | 7 => K7
  | 8 => K8
  | 9 => K9
  | 10 => K10
  | 11 => K11
  | 12 => K12
  | 13 => K13
  | 14 => K14
  | 15 => K15
  | 16 => K16
  | 17 => K17
  | 18 => K18
  | 19 => K19
  | 20 => K20
  | 21 => K21
  | 22 => K22
  | 23 => K23
  | 24 => K24
  | 25 => K25
  | 26 => K26
  | 27 => K27
  | 28 => K28
  | 29 => K29
  | 30 => K30
  | 31 => K31
  | 32 => K32
  | 33 => K33
  | 34 => K34
  | 35 => K35
  | 36 => K36
  | 37 => K37
  | 38 => K38
  | 39 => K39
  | 40 => K40
  | 41 => K41
  | 42 => K42
  | 43 => K43
  | 44 => K44
  | 45 => K45
  | 46 => K46
  | 47 => K47
  | 48 => K48
  | 49 => K49
  | 50 => K50
  | 51 => K51
  | 52 => K52
  | 53 => K53
  | 54 => K54
  | 55 => K55
  | 58 => K58
  | 59 => K59
  | 60 => K60
  | 61 => K61
  | 62 => K62
  | 63 => K63
  | _ => fun _ => []
def tabL : List (Option TI) := [
  none,
  some ⟨.func, 1, 8, false, [.nilf]⟩,
  some ⟨.int .i64, 1, 8, false, [.int .i64 0]⟩,
  some ⟨.int .i64, 1, 8, false, [.int .i64 0]⟩,
  some ⟨.bool, 1, 1, false, [.bool false]⟩,
  some ⟨.int .u8, 1, 1, false, [.int .u8 0]⟩,
  some ⟨.int .u8, 1, 1, false, [.int .u8 0]⟩,
  some ⟨.struct [(0, 2), (1, 3), (2, 4), (3, 6)], 4, 24, true, [.int .i64 0, .int .i64 0, .bool false, .int .u8 0]⟩,
  some ⟨.struct [(0, 2), (1, 3), (2, 4), (3, 6)], 4, 24, true, [.int .i64 0, .int .i64 0, .bool false, .int .u8 0]⟩,
  some ⟨.str, 1, 16, false, [.str ByteArray.empty]⟩,
  some ⟨.str, 1, 16, false, [.str ByteArray.empty]⟩,
  some ⟨.str, 1, 16, false, [.str ByteArray.empty]⟩,
  some ⟨.int .u64, 1, 8, false, [.int .u64 0]⟩,
  some ⟨.struct [(0, 9), (1, 12)], 2, 24, true, [.str ByteArray.empty, .int .u64 0]⟩,
  some ⟨.struct [(0, 9), (1, 12)], 2, 24, true, [.str ByteArray.empty, .int .u64 0]⟩,
  some ⟨.ptr 94, 1, 8, false, [.nilp]⟩,
  some ⟨.ptr 97, 1, 8, false, [.nilp]⟩,
  some ⟨.ptr 106, 1, 8, false, [.nilp]⟩,
  some ⟨.struct [(0, 17)], 1, 8, true, [.nilp]⟩,
  some ⟨.struct [(0, 17)], 1, 8, true, [.nilp]⟩,
  some ⟨.ifc, 1, 16, false, [.nili]⟩,
  some ⟨.int .i32, 1, 4, false, [.int .i32 0]⟩,
  some ⟨.slice 72, 1, 24, false, [.nils]⟩,
  some ⟨.struct [(0, 9), (1, 22)], 2, 40, true, [.str ByteArray.empty, .nils]⟩,
  some ⟨.struct [(0, 9), (1, 22)], 2, 40, true, [.str ByteArray.empty, .nils]⟩,
  some ⟨.slice 79, 1, 24, false, [.nils]⟩,
  some ⟨.func, 1, 8, false, [.nilf]⟩,
  some ⟨.func, 1, 8, false, [.nilf]⟩,
  some ⟨.int .i64, 1, 8, false, [.int .i64 0]⟩,
  some ⟨.func, 1, 8, false, [.nilf]⟩,
  some ⟨.func, 1, 8, false, [.nilf]⟩,
  some ⟨.func, 1, 8, false, [.nilf]⟩,
  some ⟨.func, 1, 8, false, [.nilf]⟩,
  some ⟨.func, 1, 8, false, [.nilf]⟩,
  some ⟨.func, 1, 8, false, [.nilf]⟩,
  some ⟨.slice 5, 1, 24, false, [.nils]⟩,
  some ⟨.int .u64, 1, 8, false, [.int .u64 0]⟩,
  some ⟨.flt .f64, 1, 8, false, [.flt .f64 0]⟩,
  some ⟨.func, 1, 8, false, [.nilf]⟩,
  some ⟨.func, 1, 8, false, [.nilf]⟩,
  some ⟨.func, 1, 8, false, [.nilf]⟩,
  some ⟨.func, 1, 8, false, [.nilf]⟩,
  some ⟨.func, 1, 8, false, [.nilf]⟩,
  some ⟨.func, 1, 8, false, [.nilf]⟩,
  some ⟨.func, 1, 8, false, [.nilf]⟩,
  some ⟨.func, 1, 8, false, [.nilf]⟩,
  some ⟨.func, 1, 8, false, [.nilf]⟩,
  some ⟨.func, 1, 8, false, [.nilf]⟩,
  some ⟨.func, 1, 8, false, [.nilf]⟩,
  some ⟨.ptr 61, 1, 8, false, [.nilp]⟩,
  some ⟨.func, 1, 8, false, [.nilf]⟩,
  some ⟨.func, 1, 8, false, [.nilf]⟩,
  some ⟨.func, 1, 8, false, [.nilf]⟩,
  some ⟨.func, 1, 8, false, [.nilf]⟩,
  some ⟨.func, 1, 8, false, [.nilf]⟩,
  some ⟨.func, 1, 8, false, [.nilf]⟩,
  some ⟨.func, 1, 8, false, [.nilf]⟩,
  some ⟨.func, 1, 8, false, [.nilf]⟩,
  some ⟨.func, 1, 8, false, [.nilf]⟩,
  some ⟨.func, 1, 8, false, [.nilf]⟩,
  some ⟨.struct [(0, 4), (1, 35), (2, 28)], 3, 40, true, [.bool false, .nils, .int .i64 0]⟩,
  some ⟨.struct [(0, 4), (1, 35), (2, 28)], 3, 40, true, [.bool false, .nils, .int .i64 0]⟩,
  some ⟨.slice 49, 1, 24, false, [.nils]⟩,
  some ⟨.func, 1, 8, false, [.nilf]⟩,
  some ⟨.func, 1, 8, false, [.nilf]⟩,
  some ⟨.func, 1, 8, false, [.nilf]⟩,
  some ⟨.func, 1, 8, false, [.nilf]⟩,
  none,
  some ⟨.func, 1, 8, false, [.nilf]⟩,
  some ⟨.func, 1, 8, false, [.nilf]⟩,
  some ⟨.func, 1, 8, false, [.nilf]⟩,
  some ⟨.struct [(0, 9), (1, 3)], 2, 24, true, [.str ByteArray.empty, .int .i64 0]⟩,
  some ⟨.struct [(0, 9), (1, 3)], 2, 24, true, [.str ByteArray.empty, .int .i64 0]⟩,
  some ⟨.func, 1, 8, false, [.nilf]⟩,
  some ⟨.map 9 4, 1, 8, false, [.nilm]⟩,
  some ⟨.func, 1, 8, false, [.nilf]⟩,
  some ⟨.func, 1, 8, false, [.nilf]⟩,
  some ⟨.func, 1, 8, false, [.nilf]⟩,
  some ⟨.struct [(0, 3), (1, 2), (2, 37), (3, 9)], 4, 40, true, [.int .i64 0, .int .i64 0, .flt .f64 0, .str ByteArray.empty]⟩,
  some ⟨.struct [(0, 3), (1, 2), (2, 37), (3, 9)], 4, 40, true, [.int .i64 0, .int .i64 0, .flt .f64 0, .str ByteArray.empty]⟩,
  some ⟨.func, 1, 8, false, [.nilf]⟩,
  some ⟨.int .u64, 1, 8, false, [.int .u64 0]⟩,
  some ⟨.func, 1, 8, false, [.nilf]⟩,
  none,
  some ⟨.func, 1, 8, false, [.nilf]⟩,
  some ⟨.func, 1, 8, false, [.nilf]⟩,
  none,
  some ⟨.func, 1, 8, false, [.nilf]⟩,
  some ⟨.func, 1, 8, false, [.nilf]⟩,
  some ⟨.func, 1, 8, false, [.nilf]⟩,
  some ⟨.func, 1, 8, false, [.nilf]⟩,
  some ⟨.func, 1, 8, false, [.nilf]⟩,
  some ⟨.func, 1, 8, false, [.nilf]⟩,
  some ⟨.struct [(0, 17), (1, 17), (2, 17), (3, 9)], 4, 40, true, [.nilp, .nilp, .nilp, .str ByteArray.empty]⟩,
  some ⟨.struct [(0, 17), (1, 17), (2, 17), (3, 9)], 4, 40, true, [.nilp, .nilp, .nilp, .str ByteArray.empty]⟩,
  some ⟨.array 0 16, 0, 0, true, []⟩,
  some ⟨.struct [(0, 95)], 0, 0, true, []⟩,
  some ⟨.struct [(0, 95)], 0, 0, true, []⟩,
  some ⟨.int .u32, 1, 4, false, [.int .u32 0]⟩,
  some ⟨.int .u8, 1, 1, false, [.int .u8 0]⟩,
  some ⟨.int .u8, 1, 1, false, [.int .u8 0]⟩,
  some ⟨.func, 1, 8, false, [.nilf]⟩,
  some ⟨.ptr 5, 1, 8, false, [.nilp]⟩,
  some ⟨.int .i32, 1, 4, false, [.int .i32 0]⟩,
  some ⟨.int .i32, 1, 4, false, [.int .i32 0]⟩,
  some ⟨.struct [(0, 12), (1, 12), (2, 98), (3, 99), (4, 5), (5, 5), (6, 100), (7, 101), (8, 102), (9, 103), (10, 104)], 11, 48, true, [.int .u64 0, .int .u64 0, .int .u32 0, .int .u8 0, .int .u8 0, .int .u8 0, .int .u8 0, .nilf, .nilp, .int .i32 0, .int .i32 0]⟩,
  some ⟨.struct [(0, 12), (1, 12), (2, 98), (3, 99), (4, 5), (5, 5), (6, 100), (7, 101), (8, 102), (9, 103), (10, 104)], 11, 48, true, [.int .u64 0, .int .u64 0, .int .u32 0, .int .u8 0, .int .u8 0, .int .u8 0, .int .u8 0, .nilf, .nilp, .int .i32 0, .int .i32 0]⟩,
  some ⟨.scalar, 1, 8, false, [.nilp]⟩]
noncomputable def G : Cfg := cfgT Go.Proofs.Try.prog (tabOf tabL) M K
theorem G_ok : GOk G := cfgT_ok _ (tab_ok (by kernel_rfl)) M K
theorem GP : G.P = Go.Proofs.Try.prog := rfl
theorem t1 : G.T 1 = some ⟨.func, 1, 8, false, [.nilf]⟩ := rfl
theorem t2 : G.T 2 = some ⟨.int .i64, 1, 8, false, [.int .i64 0]⟩ := rfl
theorem t3 : G.T 3 = some ⟨.int .i64, 1, 8, false, [.int .i64 0]⟩ := rfl
theorem t4 : G.T 4 = some ⟨.bool, 1, 1, false, [.bool false]⟩ := rfl
theorem t5 : G.T 5 = some ⟨.int .u8, 1, 1, false, [.int .u8 0]⟩ := rfl
theorem t6 : G.T 6 = some ⟨.int .u8, 1, 1, false, [.int .u8 0]⟩ := rfl
theorem t7 : G.T 7 = some ⟨.struct [(0, 2), (1, 3), (2, 4), (3, 6)], 4, 24, true, [.int .i64 0, .int .i64 0, .bool false, .int .u8 0]⟩ := rfl
theorem t8 : G.T 8 = some ⟨.struct [(0, 2), (1, 3), (2, 4), (3, 6)], 4, 24, true, [.int .i64 0, .int .i64 0, .bool false, .int .u8 0]⟩ := rfl
theorem t9 : G.T 9 = some ⟨.str, 1, 16, false, [.str ByteArray.empty]⟩ := rfl
theorem t10 : G.T 10 = some ⟨.str, 1, 16, false, [.str ByteArray.empty]⟩ := rfl
theorem t11 : G.T 11 = some ⟨.str, 1, 16, false, [.str ByteArray.empty]⟩ := rfl
theorem t12 : G.T 12 = some ⟨.int .u64, 1, 8, false, [.int .u64 0]⟩ := rfl
theorem t13 : G.T 13 = some ⟨.struct [(0, 9), (1, 12)], 2, 24, true, [.str ByteArray.empty, .int .u64 0]⟩ := rfl
theorem t14 : G.T 14 = some ⟨.struct [(0, 9), (1, 12)], 2, 24, true, [.str ByteArray.empty, .int .u64 0]⟩ := rfl
theorem t15 : G.T 15 = some ⟨.ptr 94, 1, 8, false, [.nilp]⟩ := rfl
theorem t16 : G.T 16 = some ⟨.ptr 97, 1, 8, false, [.nilp]⟩ := rfl
theorem t17 : G.T 17 = some ⟨.ptr 106, 1, 8, false, [.nilp]⟩ := rfl
theorem t18 : G.T 18 = some ⟨.struct [(0, 17)], 1, 8, true, [.nilp]⟩ := rfl
theorem t19 : G.T 19 = some ⟨.struct [(0, 17)], 1, 8, true, [.nilp]⟩ := rfl
theorem t20 : G.T 20 = some ⟨.ifc, 1, 16, false, [.nili]⟩ := rfl
theorem t21 : G.T 21 = some ⟨.int .i32, 1, 4, false, [.int .i32 0]⟩ := rfl
theorem t22 : G.T 22 = some ⟨.slice 72, 1, 24, false, [.nils]⟩ := rfl
theorem t23 : G.T 23 = some ⟨.struct [(0, 9), (1, 22)], 2, 40, true, [.str ByteArray.empty, .nils]⟩ := rfl
theorem t24 : G.T 24 = some ⟨.struct [(0, 9), (1, 22)], 2, 40, true, [.str ByteArray.empty, .nils]⟩ := rfl
theorem t25 : G.T 25 = some ⟨.slice 79, 1, 24, false, [.nils]⟩ := rfl
theorem t26 : G.T 26 = some ⟨.func, 1, 8, false, [.nilf]⟩ := rfl
theorem t27 : G.T 27 = some ⟨.func, 1, 8, false, [.nilf]⟩ := rfl
theorem t28 : G.T 28 = some ⟨.int .i64, 1, 8, false, [.int .i64 0]⟩ := rfl
theorem t29 : G.T 29 = some ⟨.func, 1, 8, false, [.nilf]⟩ := rfl
theorem t30 : G.T 30 = some ⟨.func, 1, 8, false, [.nilf]⟩ := rfl
theorem t31 : G.T 31 = some ⟨.func, 1, 8, false, [.nilf]⟩ := rfl
theorem t32 : G.T 32 = some ⟨.func, 1, 8, false, [.nilf]⟩ := rfl
theorem t33 : G.T 33 = some ⟨.func, 1, 8, false, [.nilf]⟩ := rfl
theorem t34 : G.T 34 = some ⟨.func, 1, 8, false, [.nilf]⟩ := rfl
theorem t35 : G.T 35 = some ⟨.slice 5, 1, 24, false, [.nils]⟩ := rfl
theorem t36 : G.T 36 = some ⟨.int .u64, 1, 8, false, [.int .u64 0]⟩ := rfl
theorem t37 : G.T 37 = some ⟨.flt .f64, 1, 8, false, [.flt .f64 0]⟩ := rfl
theorem t38 : G.T 38 = some ⟨.func, 1, 8, false, [.nilf]⟩ := rfl
theorem t39 : G.T 39 = some ⟨.func, 1, 8, false, [.nilf]⟩ := rfl
theorem t40 : G.T 40 = some ⟨.func, 1, 8, false, [.nilf]⟩ := rfl
theorem t41 : G.T 41 = some ⟨.func, 1, 8, false, [.nilf]⟩ := rfl
theorem t42 : G.T 42 = some ⟨.func, 1, 8, false, [.nilf]⟩ := rfl
theorem t43 : G.T 43 = some ⟨.func, 1, 8, false, [.nilf]⟩ := rfl
theorem t44 : G.T 44 = some ⟨.func, 1, 8, false, [.nilf]⟩ := rfl
theorem t45 : G.T 45 = some ⟨.func, 1, 8, false, [.nilf]⟩ := rfl
theorem t46 : G.T 46 = some ⟨.func, 1, 8, false, [.nilf]⟩ := rfl
theorem t47 : G.T 47 = some ⟨.func, 1, 8, false, [.nilf]⟩ := rfl
theorem t48 : G.T 48 = some ⟨.func, 1, 8, false, [.nilf]⟩ := rfl
theorem t49 : G.T 49 = some ⟨.ptr 61, 1, 8, false, [.nilp]⟩ := rfl
theorem t50 : G.T 50 = some ⟨.func, 1, 8, false, [.nilf]⟩ := rfl
theorem t51 : G.T 51 = some ⟨.func, 1, 8, false, [.nilf]⟩ := rfl
theorem t52 : G.T 52 = some ⟨.func, 1, 8, false, [.nilf]⟩ := rfl
theorem t53 : G.T 53 = some ⟨.func, 1, 8, false, [.nilf]⟩ := rfl
theorem t54 : G.T 54 = some ⟨.func, 1, 8, false, [.nilf]⟩ := rfl
theorem t55 : G.T 55 = some ⟨.func, 1, 8, false, [.nilf]⟩ := rfl
theorem t56 : G.T 56 = some ⟨.func, 1, 8, false, [.nilf]⟩ := rfl
theorem t57 : G.T 57 = some ⟨.func, 1, 8, false, [.nilf]⟩ := rfl
theorem t58 : G.T 58 = some ⟨.func, 1, 8, false, [.nilf]⟩ := rfl
theorem t59 : G.T 59 = some ⟨.func, 1, 8, false, [.nilf]⟩ := rfl
theorem t60 : G.T 60 = some ⟨.struct [(0, 4), (1, 35), (2, 28)], 3, 40, true, [.bool false, .nils, .int .i64 0]⟩ := rfl
theorem t61 : G.T 61 = some ⟨.struct [(0, 4), (1, 35), (2, 28)], 3, 40, true, [.bool false, .nils, .int .i64 0]⟩ := rfl
theorem t62 : G.T 62 = some ⟨.slice 49, 1, 24, false, [.nils]⟩ := rfl
theorem t63 : G.T 63 = some ⟨.func, 1, 8, false, [.nilf]⟩ := rfl
theorem t64 : G.T 64 = some ⟨.func, 1, 8, false, [.nilf]⟩ := rfl
theorem t65 : G.T 65 = some ⟨.func, 1, 8, false, [.nilf]⟩ := rfl
theorem t66 : G.T 66 = some ⟨.func, 1, 8, false, [.nilf]⟩ := rfl
theorem t68 : G.T 68 = some ⟨.func, 1, 8, false, [.nilf]⟩ := rfl
theorem t69 : G.T 69 = some ⟨.func, 1, 8, false, [.nilf]⟩ := rfl
theorem t70 : G.T 70 = some ⟨.func, 1, 8, false, [.nilf]⟩ := rfl
theorem t71 : G.T 71 = some ⟨.struct [(0, 9), (1, 3)], 2, 24, true, [.str ByteArray.empty, .int .i64 0]⟩ := rfl
theorem t72 : G.T 72 = some ⟨.struct [(0, 9), (1, 3)], 2, 24, true, [.str ByteArray.empty, .int .i64 0]⟩ := rfl
theorem t73 : G.T 73 = some ⟨.func, 1, 8, false, [.nilf]⟩ := rfl
theorem t74 : G.T 74 = some ⟨.map 9 4, 1, 8, false, [.nilm]⟩ := rfl
theorem t75 : G.T 75 = some ⟨.func, 1, 8, false, [.nilf]⟩ := rfl
theorem t76 : G.T 76 = some ⟨.func, 1, 8, false, [.nilf]⟩ := rfl
theorem t77 : G.T 77 = some ⟨.func, 1, 8, false, [.nilf]⟩ := rfl
theorem t78 : G.T 78 = some ⟨.struct [(0, 3), (1, 2), (2, 37), (3, 9)], 4, 40, true, [.int .i64 0, .int .i64 0, .flt .f64 0, .str ByteArray.empty]⟩ := rfl
theorem t79 : G.T 79 = some ⟨.struct [(0, 3), (1, 2), (2, 37), (3, 9)], 4, 40, true, [.int .i64 0, .int .i64 0, .flt .f64 0, .str ByteArray.empty]⟩ := rfl
theorem t80 : G.T 80 = some ⟨.func, 1, 8, false, [.nilf]⟩ := rfl
theorem t81 : G.T 81 = some ⟨.int .u64, 1, 8, false, [.int .u64 0]⟩ := rfl
theorem t82 : G.T 82 = some ⟨.func, 1, 8, false, [.nilf]⟩ := rfl
theorem t84 : G.T 84 = some ⟨.func, 1, 8, false, [.nilf]⟩ := rfl
theorem t85 : G.T 85 = some ⟨.func, 1, 8, false, [.nilf]⟩ := rfl
theorem t87 : G.T 87 = some ⟨.func, 1, 8, false, [.nilf]⟩ := rfl
theorem t88 : G.T 88 = some ⟨.func, 1, 8, false, [.nilf]⟩ := rfl
theorem t89 : G.T 89 = some ⟨.func, 1, 8, false, [.nilf]⟩ := rfl
theorem t90 : G.T 90 = some ⟨.func, 1, 8, false, [.nilf]⟩ := rfl
theorem t91 : G.T 91 = some ⟨.func, 1, 8, false, [.nilf]⟩ := rfl
theorem t92 : G.T 92 = some ⟨.func, 1, 8, false, [.nilf]⟩ := rfl
theorem t93 : G.T 93 = some ⟨.struct [(0, 17), (1, 17), (2, 17), (3, 9)], 4, 40, true, [.nilp, .nilp, .nilp, .str ByteArray.empty]⟩ := rfl
theorem t94 : G.T 94 = some ⟨.struct [(0, 17), (1, 17), (2, 17), (3, 9)], 4, 40, true, [.nilp, .nilp, .nilp, .str ByteArray.empty]⟩ := rfl
theorem t95 : G.T 95 = some ⟨.array 0 16, 0, 0, true, []⟩ := rfl
theorem t96 : G.T 96 = some ⟨.struct [(0, 95)], 0, 0, true, []⟩ := rfl
theorem t97 : G.T 97 = some ⟨.struct [(0, 95)], 0, 0, true, []⟩ := rfl
theorem t98 : G.T 98 = some ⟨.int .u32, 1, 4, false, [.int .u32 0]⟩ := rfl
theorem t99 : G.T 99 = some ⟨.int .u8, 1, 1, false, [.int .u8 0]⟩ := rfl
theorem t100 : G.T 100 = some ⟨.int .u8, 1, 1, false, [.int .u8 0]⟩ := rfl
theorem t101 : G.T 101 = some ⟨.func, 1, 8, false, [.nilf]⟩ := rfl
theorem t102 : G.T 102 = some ⟨.ptr 5, 1, 8, false, [.nilp]⟩ := rfl
theorem t103 : G.T 103 = some ⟨.int .i32, 1, 4, false, [.int .i32 0]⟩ := rfl
theorem t104 : G.T 104 = some ⟨.int .i32, 1, 4, false, [.int .i32 0]⟩ := rfl
theorem t105 : G.T 105 = some ⟨.struct [(0, 12), (1, 12), (2, 98), (3, 99), (4, 5), (5, 5), (6, 100), (7, 101), (8, 102), (9, 103), (10, 104)], 11, 48, true, [.int .u64 0, .int .u64 0, .int .u32 0, .int .u8 0, .int .u8 0, .int .u8 0, .int .u8 0, .nilf, .nilp, .int .i32 0, .int .i32 0]⟩ := rfl
theorem t106 : G.T 106 = some ⟨.struct [(0, 12), (1, 12), (2, 98), (3, 99), (4, 5), (5, 5), (6, 100), (7, 101), (8, 102), (9, 103), (10, 104)], 11, 48, true, [.int .u64 0, .int .u64 0, .int .u32 0, .int .u8 0, .int .u8 0, .int .u8 0, .int .u8 0, .nilf, .nilp, .int .i32 0, .int .i32 0]⟩ := rfl
theorem t107 : G.T 107 = some ⟨.scalar, 1, 8, false, [.nilp]⟩ := rfl
end Go.Ab.S1
