import Derived.Test.YtejbcaheoloahaaProg
import Derived.Test.YtejbcaheoloahaaAbRow
import Derived.Test.YtejbcaheoloahaaAbPan
namespace Go.Ab.S1
open Go Go.Ab
open Go.Proofs.Try
set_option maxRecDepth 100000
def M : Nat → Mode
  | 27 => .byref
  | 30 => .byref
  | 31 => .byref
  | 32 => .byref
  | 35 => .byref
  | 36 => .byref
  | 37 => .byref
  | 38 => .byref
  | 40 => .byref
  | 58 => .byref
  | 59 => .byref
  | 67 => .byref
  | 68 => .byref
  | 91 => .byref
  | _ => .pure
def K3 : Nat → List Nat
  | 0 => [0, 6]
  | 2 => [16]
  | 4 => [1, 2, 3, 17]
  | 6 => [17, 18, 19, 20, 21, 22, 23, 24]
  | 8 => [1, 2, 3, 25]
  | 10 => [25, 26, 27, 28, 29, 30, 31]
  | 12 => [2, 32, 33, 34, 35, 36, 37, 38, 39, 40, 41]
  | 14 => [9, 10, 42, 43, 44, 45, 46, 47, 48, 49, 50, 51, 52]
  | 16 => [1, 3, 7, 8, 53]
  | 18 => [53]
  | 20 => [54, 55, 56]
  | 22 => [57]
  | 24 => [59, 60, 68, 69, 70]
  | 26 => [58, 61, 62, 63, 64, 65, 66, 67]
  | 32 => [70, 71]
  | 34 => [13, 72, 73, 74, 75, 76, 77, 78, 79, 80, 81]
  | 36 => [1, 3, 7, 8, 11, 12, 68, 69, 82]
  | 38 => [82, 83]
  | 40 => [1, 3, 11, 12, 58, 84, 85, 86, 87, 88, 89]
  | 42 => [7, 8, 14, 15, 90, 91, 92, 93, 94, 95, 96, 97, 98, 99, 100, 101, 102, 103]
  | _ => []
def K7 : Nat → List Nat
  | 0 => [0]
  | 2 => [7, 8, 9, 10, 11]
  | 4 => [12, 13, 14, 15]
  | 6 => [16, 17, 18, 19, 20, 21]
  | 8 => [22, 23, 24]
  | 10 => [1, 5, 25, 26, 27, 28, 29, 30]
  | 12 => [2, 3, 4, 6, 31, 32, 33, 34, 35, 36, 37, 38, 39, 40, 41, 42, 43, 44, 45, 46]
  | _ => []
def K8 : Nat → List Nat
  | 0 => [0, 4]
  | 2 => [2, 7, 8, 9, 10, 11, 12, 13]
  | 4 => [1, 14]
  | 6 => [1, 14]
  | 10 => [18, 19, 20]
  | 12 => [6, 21, 22, 23, 24, 25, 26, 27, 28, 29]
  | 14 => [15, 16, 17, 30]
  | 16 => [30, 31]
  | 18 => [15, 16, 17, 18]
  | _ => []
def K9 : Nat → List Nat
  | 0 => [0, 4, 5]
  | 2 => [1, 12, 13, 14, 15, 16, 17]
  | 4 => [18]
  | 6 => [2, 6, 7, 19, 20]
  | 8 => [7, 19, 21, 22]
  | 10 => [2, 6, 23]
  | 12 => [6, 23, 24]
  | 18 => [25]
  | 20 => [26, 27, 28, 29]
  | 22 => [30]
  | 24 => [31, 32, 33, 34, 35]
  | 26 => [31, 36]
  | 28 => [2, 8, 10, 11, 37, 38, 39, 40, 41]
  | 30 => [2, 8, 10, 11, 37, 42]
  | 32 => [7, 9, 43, 44]
  | 34 => [7, 9, 43, 45]
  | _ => []
def K10 : Nat → List Nat
  | 0 => [4]
  | 2 => [6, 7, 8, 9]
  | 4 => [0, 1, 10]
  | 6 => [10]
  | 8 => [11, 12, 13]
  | 10 => [15, 16, 25]
  | 12 => [14, 17, 18, 19, 20, 21, 22, 23, 24]
  | 14 => [0, 1, 5, 25]
  | 16 => [0, 1, 5, 14]
  | _ => []
def K23 : Nat → List Nat
  | 0 => [0, 2]
  | 2 => [1, 3, 4, 5, 6, 7, 8, 9]
  | _ => []
def K24 : Nat → List Nat
  | 0 => [0, 4]
  | 2 => [8, 9, 10, 11, 12, 13, 14, 15, 16, 17, 18, 19, 20, 21, 22, 23, 24, 25]
  | 4 => [1, 2, 26, 27, 28]
  | 6 => [26, 29, 30, 31, 32, 33, 34, 35, 36, 37, 38, 39]
  | 10 => [40, 41, 42, 43]
  | 12 => [45, 46]
  | 14 => [44, 47, 48, 49, 50, 51, 52, 53, 54, 55, 56, 57, 58]
  | 16 => [1, 2, 5, 6, 59, 60, 61]
  | 18 => [59, 62, 63, 64, 65, 66, 67, 68, 69]
  | 20 => [6, 44, 70, 71]
  | 22 => [72, 73, 74, 75, 76, 77, 78, 79, 80]
  | 24 => [72, 81, 82]
  | 26 => [83, 84, 85, 86, 87, 88, 89, 90, 91]
  | 28 => [83]
  | 30 => [92, 93, 94, 95, 96, 97, 98, 99, 100]
  | 32 => [102, 103]
  | 34 => [101, 104, 105, 106, 107, 108, 109, 110, 111, 112, 113, 114, 115, 116]
  | 36 => [1, 2, 5, 7, 101, 117]
  | _ => []
def K25 : Nat → List Nat
  | 0 => [0, 1, 4, 5]
  | 2 => [9, 10, 11, 12]
  | 4 => [2, 3, 8]
  | 6 => [8, 14, 15, 16, 17]
  | 8 => [2, 3, 13]
  | 10 => [13]
  | 12 => [2, 3, 18, 19, 20, 21]
  | 14 => [22]
  | 16 => [6, 7, 23, 24]
  | 18 => [6, 7, 23, 25]
  | _ => []
def K26 : Nat → List Nat
  | 0 => [0, 2]
  | 2 => [3, 4, 5, 6, 7, 8, 9, 10, 11, 12, 13, 14, 15, 16, 17, 18, 19, 20, 21, 22, 23]
  | 4 => [1, 24]
  | 6 => [24, 25, 26, 27, 28, 29, 30, 31, 32, 33, 34, 35, 36, 37, 38, 39, 40, 41, 42, 43]
  | 8 => [1, 44]
  | 10 => [44, 45, 46]
  | 12 => [1, 47]
  | 14 => [1, 47, 48, 49, 50, 51, 52]
  | _ => []
def K27 : Nat → List Nat
  | 0 => [0, 7]
  | 2 => [3, 4, 10, 11, 12, 13, 14, 15]
  | 4 => [1, 16, 17, 18, 19, 20, 21, 22]
  | 6 => [23]
  | 8 => [23, 24]
  | 10 => [2, 8, 25, 26, 27, 28]
  | 12 => [2, 8, 9, 25, 29]
  | _ => []
def K28 : Nat → List Nat
  | 0 => [0, 1, 4, 5]
  | 2 => [8, 9]
  | 4 => [2, 3, 10]
  | 6 => [10]
  | 8 => [2, 3, 11, 12]
  | 10 => [13]
  | 12 => [6, 7, 14, 15]
  | 14 => [6, 7, 14, 16]
  | _ => []
def K29 : Nat → List Nat
  | 0 => [0, 2]
  | _ => []
def K30 : Nat → List Nat
  | 0 => [0, 1, 3, 4, 5, 6]
  | _ => []
def K31 : Nat → List Nat
  | 0 => [4]
  | 2 => [0]
  | 6 => [11, 12, 13]
  | 8 => [6, 14, 15, 16]
  | 10 => [17]
  | 12 => [1, 7, 8, 9, 10, 18, 19]
  | 14 => [7, 18, 20]
  | 16 => [1, 8, 9, 10, 11]
  | _ => []
def K32 : Nat → List Nat
  | 0 => [0, 3]
  | 2 => [1, 2, 4, 5, 6]
  | _ => []
def K33 : Nat → List Nat
  | 0 => [2]
  | 2 => [0, 3, 4, 5, 6, 7, 8]
  | _ => []
def K35 : Nat → List Nat
  | 0 => [0, 5]
  | 2 => [1, 2, 3, 4, 6, 7, 8, 9, 10]
  | _ => []
def K36 : Nat → List Nat
  | 0 => [4]
  | 2 => [0]
  | 6 => [11, 12, 13]
  | 8 => [6, 14, 15, 16]
  | 10 => [17]
  | 12 => [1, 7, 8, 9, 10, 18, 19]
  | 14 => [7, 18, 20]
  | 16 => [1, 8, 9, 10, 11]
  | _ => []
def K37 : Nat → List Nat
  | 0 => [0, 5]
  | 2 => [6]
  | 4 => [9]
  | 6 => [1, 2, 3, 4, 7, 8, 10, 11, 12, 13, 14, 15]
  | 8 => [7, 8, 17]
  | 10 => [1, 2, 3, 4, 16, 18, 19, 20, 21, 22]
  | 12 => [1, 2, 3, 4, 16, 23, 24, 25, 26, 27, 28]
  | _ => []
def K38 : Nat → List Nat
  | 0 => [0, 1, 3, 4]
  | _ => []
def K39 : Nat → List Nat
  | 0 => [2]
  | 2 => [0, 3, 4, 5, 6, 7, 8]
  | _ => []
def K40 : Nat → List Nat
  | 0 => [0, 1, 3, 4]
  | _ => []
def K44 : Nat → List Nat
  | 0 => [4]
  | 2 => [7, 8, 9]
  | 4 => [0, 1, 10, 11, 12]
  | 6 => [10, 13, 14]
  | 10 => [15, 16, 17, 18, 19, 20, 21, 22]
  | 12 => [24, 25, 48]
  | 14 => [23, 26, 27, 28, 29, 30, 31, 32, 33]
  | 16 => [0, 1, 5, 6, 34, 35, 36]
  | 18 => [34, 37, 38, 39, 40, 41, 42, 43, 44, 45]
  | 20 => [46, 47]
  | 22 => [48, 49, 50, 51, 52, 53, 54, 55, 56, 57, 58, 59]
  | 24 => [0, 1, 5, 6, 23, 60]
  | _ => []
def K47 : Nat → List Nat
  | 0 => [0, 2]
  | 2 => [1, 3, 4, 5]
  | _ => []
def K58 : Nat → List Nat
  | 0 => [4]
  | 2 => [0]
  | 6 => [11, 12, 13]
  | 8 => [6, 14, 15, 16]
  | 10 => [17]
  | 12 => [1, 7, 8, 9, 10, 18, 19]
  | 14 => [7, 18, 20]
  | 16 => [1, 8, 9, 10, 11]
  | _ => []
def K59 : Nat → List Nat
  | 0 => [0, 4]
  | 2 => [6, 7, 8]
  | 4 => [9]
  | 6 => [1, 2, 3, 5, 10]
  | 8 => [1, 2, 3, 5, 10, 11, 12, 13, 14, 15, 16, 17, 18, 19, 20, 21]
  | _ => []
def K60 : Nat → List Nat
  | 0 => [4]
  | 2 => [6]
  | 6 => [9, 10]
  | 8 => [11, 12, 13, 14, 15]
  | 10 => [0, 1, 5, 7, 8, 16, 17]
  | 12 => [5, 16, 18]
  | 14 => [0, 1, 7, 8, 9]
  | _ => []
def K61 : Nat → List Nat
  | 0 => [0, 3]
  | 2 => [1, 2, 4, 5, 6, 7]
  | _ => []
def K62 : Nat → List Nat
  | 0 => [2]
  | 2 => [3]
  | 4 => [0, 4]
  | 6 => [0, 4, 5, 6, 7]
  | _ => []
def K63 : Nat → List Nat
  | 0 => [4]
  | 2 => [0, 1, 5, 6, 7, 8]
  | _ => []
def K64 : Nat → List Nat
  | 0 => [0, 2]
  | 2 => [1, 3, 4, 5, 6, 7, 8, 9, 10]
  | _ => []
def K65 : Nat → List Nat
  | 0 => [4]
  | 2 => [0, 1, 5, 6, 7, 8]
  | _ => []
def K66 : Nat → List Nat
  | 0 => [0, 3]
  | 2 => [1, 2, 4, 5, 6, 7, 8, 9, 10, 11, 12, 13]
  | _ => []
def K67 : Nat → List Nat
  | 2 => [3]
  | 4 => [0, 4, 5]
  | _ => []
def K68 : Nat → List Nat
  | 0 => [3, 4, 5]
  | 2 => [0, 1, 2, 6, 7, 8]
  | _ => []
def K69 : Nat → List Nat
  | 0 => [0]
  | 2 => [6, 7]
  | 4 => [8, 9, 10, 11]
  | 6 => [2, 8, 12]
  | 10 => [16, 17, 18]
  | 12 => [5, 19, 20, 21]
  | 14 => [22]
  | _ => []
def K70 : Nat → List Nat
  | 0 => [0, 4]
  | 4 => [8]
  | 8 => [12, 13, 14]
  | 10 => [7, 15, 16, 17, 18, 19, 20]
  | 12 => [21]
  | 14 => [9, 10, 11, 12, 22]
  | 16 => [25]
  | 18 => [1, 2, 5, 23, 24, 26, 27, 28]
  | 20 => [1, 24, 30]
  | 22 => [2, 5, 23, 29, 31, 32, 33]
  | 24 => [2, 29, 35]
  | 26 => [36]
  | 28 => [37]
  | 30 => [5, 23, 34, 38, 39, 40, 41, 42, 43, 44]
  | 32 => [34, 46]
  | 34 => [5, 23, 45, 47, 48, 49, 50, 51, 52, 53]
  | 36 => [45, 55]
  | 38 => [56]
  | 40 => [57]
  | 42 => [5, 23, 54, 58, 59, 60, 61, 62, 63, 64]
  | 44 => [54, 66]
  | 46 => [67]
  | 48 => [5, 23, 65, 68, 69, 70, 71, 72, 73, 74]
  | 50 => [23, 65, 76]
  | 52 => [5, 75, 77, 78, 79, 80, 81, 82, 83]
  | 54 => [5, 75]
  | _ => []
def K73 : Nat → List Nat
  | 0 => [0, 6]
  | 2 => [9, 10, 11, 12, 13, 14, 15, 16, 17, 18, 19, 20, 21, 22, 23, 24, 25, 26, 27]
  | 4 => [1, 2, 3, 28]
  | 6 => [28, 29, 30]
  | 8 => [3, 31]
  | 12 => [35, 36, 37]
  | 14 => [8, 38, 39, 40, 41, 42]
  | 16 => [43]
  | 18 => [1, 2, 32, 33, 34, 44]
  | 20 => [44, 45]
  | 22 => [1, 2, 32, 33, 34, 35, 46]
  | _ => []
def K89 : Nat → List Nat
  | 0 => [4]
  | 2 => [6]
  | 6 => [9, 10]
  | 8 => [11, 12, 13, 14, 15]
  | 10 => [0, 1, 5, 7, 8, 16, 17]
  | 12 => [5, 16, 18]
  | 14 => [0, 1, 7, 8, 9]
  | _ => []
def K90 : Nat → List Nat
  | 0 => [4]
  | 2 => [6]
  | 6 => [9, 10]
  | 8 => [11, 12, 13, 14, 15]
  | 10 => [0, 1, 5, 7, 8, 16, 17]
  | 12 => [5, 16, 18]
  | 14 => [0, 1, 7, 8, 9]
  | _ => []
def K91 : Nat → List Nat
  | 0 => [4]
  | 2 => [5]
  | 4 => [6]
  | 6 => [1, 7, 8, 9, 10, 11]
  | 8 => [3]
  | 10 => [0, 2, 12, 13]
  | _ => []
def K92 : Nat → List Nat
  | 0 => [0, 4]
  | 2 => [5, 6, 7, 8, 9, 10, 11, 12, 13, 14, 15, 16, 17, 18, 19, 20]
  | 4 => [21, 22]
  | 6 => [1, 2, 21, 23, 24, 25, 26, 27, 28, 29, 30, 31, 32, 33]
  | _ => []
def K93 : Nat → List Nat
  | 0 => [6]
  | 2 => [2, 7, 8, 9, 10, 11, 12, 13, 14, 15, 16, 17, 18, 19, 20, 21, 22, 23, 24, 25, 26, 27, 28]
  | 4 => [29, 30]
  | 6 => [0, 1, 29, 31, 32, 33]
  | _ => []
def K94 : Nat → List Nat
  | 0 => [2]
  | 2 => [0, 3, 4, 5, 6, 7, 8, 9, 10, 11, 12]
  | _ => []
def K95 : Nat → List Nat
  | 0 => [0, 2]
  | _ => []
def K96 : Nat → List Nat
  | 0 => [2]
  | 2 => [0, 3, 4, 5, 6, 7, 8]
  | _ => []
def K97 : Nat → List Nat
  | 0 => [2]
  | 2 => [0]
  | 4 => [5]
  | 6 => [6]
  | 8 => [3, 4]
  | 10 => [4, 8]
  | 12 => [9]
  | 14 => [10]
  | 16 => [3, 7]
  | 18 => [7, 12]
  | 20 => [13]
  | 22 => [14]
  | 24 => [15]
  | 26 => [16]
  | 28 => [17]
  | 30 => [18]
  | 32 => [3, 19]
  | 34 => [3, 11]
  | 36 => [3, 11]
  | _ => []
def K98 : Nat → List Nat
  | 0 => [0, 2]
  | 4 => [3, 4, 5, 6, 7, 8, 9, 10, 11, 12, 13, 14, 15, 16, 17, 18, 19, 20, 21, 22, 23, 24, 25, 26, 27, 28, 29]
  | 6 => [1, 30]
  | 8 => [1, 30, 31, 32, 33, 34, 35, 36, 37, 38, 39, 40, 41, 42, 43, 44]
  | _ => []
def K111 : Nat → List Nat
  | 0 => [2]
  | 2 => [0, 3, 4, 5, 6, 7, 8]
  | _ => []
def K112 : Nat → List Nat
  | 0 => [0, 2]
  | 2 => [4, 5, 6, 7, 8, 9, 10, 11, 12]
  | 4 => [13]
  | 6 => [16]
  | 8 => [15, 18]
  | 10 => [17, 20]
  | 12 => [19, 22]
  | 14 => [14, 21, 24]
  | 16 => [1, 3, 14, 15, 25, 26, 27, 28, 29, 30, 31, 32, 33, 34, 35]
  | 18 => [14, 17, 36, 37, 38, 39, 40, 41, 42]
  | 20 => [1, 3, 43]
  | 22 => [1, 3, 14, 19, 43, 44, 45, 46, 47, 48, 49]
  | 24 => [1, 3, 14, 21, 50, 51, 52, 53, 54, 55, 56, 57]
  | 26 => [1, 3, 23, 58, 59, 60, 61, 62, 63, 64, 65, 66, 67, 68, 69]
  | 28 => [1, 3, 23]
  | _ => []
def K121 : Nat → List Nat
  | 0 => [2]
  | 2 => [0, 3, 4, 5, 6]
  | _ => []
def K : Nat → Nat → List Nat
  | 3 => K3
  | 7 => K7
  | 8 => K8
  | 9 => K9
  | 10 => K10
  | 23 => K23
  | 24 => K24
  | 25 => K25
  | 26 => K26
  | 27 => K27
  | 28 => K28
  | 29 => K29
  | 30 => K30
  | 31 => K31
  | 32 => K32
  | 33 => K33
  | 35 => K35
  | 36 => K36
  | 37 => K37
  | 38 => K38
  | 39 => K39
  | 40 => K40
  | 44 => K44
  | 47 => K47
  | 58 => K58
  | 59 => K59
  | 60 => K60
  | 61 => K61
  | 62 => K62
  | 63 => K63
  | 64 => K64
  | 65 => K65
  | 66 => K66
  | 67 => K67
  | 68 => K68
  | 69 => K69
  | 70 => K70
  | 73 => K73
  | 89 => K89
  | 90 => K90
  | 91 => K91
  | 92 => K92
  | 93 => K93
  | 94 => K94
  | 95 => K95
  | 96 => K96
  | 97 => K97
  | 98 => K98
  | 111 => K111
  | 112 => K112
  | 121 => K121
  | _ => fun _ => []
def tabL : List (Option TI) := [
  none,
  some ⟨.func, 1, 8, false, [.nilf]⟩,
  some ⟨.int .i64, 1, 8, false, [.int .i64 0]⟩,
  some ⟨.int .i64, 1, 8, false, [.int .i64 0]⟩,
  some ⟨.bool, 1, 1, false, [.bool false]⟩,
  some ⟨.int .u8, 1, 1, false, [.int .u8 0]⟩,
  some ⟨.int .u8, 1, 1, false, [.int .u8 0]⟩,
  some ⟨.struct [(0, 2), (1, 3), (2, 4), (3, 6)], 4, 24, true, [.int .i64 0, .int .i64 0, .bool false, .int .u8 0]⟩,
  some ⟨.struct [(0, 2), (1, 3), (2, 4), (3, 6)], 4, 24, true, [.int .i64 0, .int .i64 0, .bool false, .int .u8 0]⟩,
  some ⟨.str, 1, 16, false, [.str ByteArray.empty]⟩,
  some ⟨.str, 1, 16, false, [.str ByteArray.empty]⟩,
  some ⟨.str, 1, 16, false, [.str ByteArray.empty]⟩,
  some ⟨.int .u64, 1, 8, false, [.int .u64 0]⟩,
  some ⟨.struct [(0, 9), (1, 12)], 2, 24, true, [.str ByteArray.empty, .int .u64 0]⟩,
  some ⟨.struct [(0, 9), (1, 12)], 2, 24, true, [.str ByteArray.empty, .int .u64 0]⟩,
  some ⟨.ptr 186, 1, 8, false, [.nilp]⟩,
  some ⟨.ptr 189, 1, 8, false, [.nilp]⟩,
  some ⟨.ptr 198, 1, 8, false, [.nilp]⟩,
  some ⟨.struct [(0, 17)], 1, 8, true, [.nilp]⟩,
  some ⟨.struct [(0, 17)], 1, 8, true, [.nilp]⟩,
  some ⟨.ifc, 1, 16, false, [.nili]⟩,
  some ⟨.int .i32, 1, 4, false, [.int .i32 0]⟩,
  some ⟨.slice 9, 1, 24, false, [.nils]⟩,
  some ⟨.slice 44, 1, 24, false, [.nils]⟩,
  some ⟨.slice 82, 1, 24, false, [.nils]⟩,
  some ⟨.slice 67, 1, 24, false, [.nils]⟩,
  some ⟨.struct [(0, 22), (1, 23), (2, 4), (3, 23), (4, 24), (5, 25)], 6, 128, true, [.nils, .nils, .bool false, .nils, .nils, .nils]⟩,
  some ⟨.struct [(0, 22), (1, 23), (2, 4), (3, 23), (4, 24), (5, 25)], 6, 128, true, [.nils, .nils, .bool false, .nils, .nils, .nils]⟩,
  some ⟨.slice 38, 1, 24, false, [.nils]⟩,
  some ⟨.func, 1, 8, false, [.nilf]⟩,
  some ⟨.func, 1, 8, false, [.nilf]⟩,
  some ⟨.slice 3, 1, 24, false, [.nils]⟩,
  some ⟨.int .i64, 1, 8, false, [.int .i64 0]⟩,
  none,
  some ⟨.func, 1, 8, false, [.nilf]⟩,
  some ⟨.func, 1, 8, false, [.nilf]⟩,
  some ⟨.slice 65, 1, 24, false, [.nils]⟩,
  some ⟨.struct [(0, 9), (1, 36)], 2, 40, true, [.str ByteArray.empty, .nils]⟩,
  some ⟨.struct [(0, 9), (1, 36)], 2, 40, true, [.str ByteArray.empty, .nils]⟩,
  some ⟨.func, 1, 8, false, [.nilf]⟩,
  some ⟨.flt .f64, 1, 8, false, [.flt .f64 0]⟩,
  some ⟨.struct [(0, 3), (1, 2), (2, 40), (3, 9)], 4, 40, true, [.int .i64 0, .int .i64 0, .flt .f64 0, .str ByteArray.empty]⟩,
  some ⟨.struct [(0, 3), (1, 2), (2, 40), (3, 9)], 4, 40, true, [.int .i64 0, .int .i64 0, .flt .f64 0, .str ByteArray.empty]⟩,
  some ⟨.struct [(0, 3), (1, 3), (2, 3), (3, 42), (7, 23)], 8, 88, true, [.int .i64 0, .int .i64 0, .int .i64 0, .int .i64 0, .int .i64 0, .flt .f64 0, .str ByteArray.empty, .nils]⟩,
  some ⟨.struct [(0, 3), (1, 3), (2, 3), (3, 42), (7, 23)], 8, 88, true, [.int .i64 0, .int .i64 0, .int .i64 0, .int .i64 0, .int .i64 0, .flt .f64 0, .str ByteArray.empty, .nils]⟩,
  some ⟨.slice 100, 1, 24, false, [.nils]⟩,
  some ⟨.int .u32, 1, 4, false, [.int .u32 0]⟩,
  some ⟨.func, 1, 8, false, [.nilf]⟩,
  some ⟨.slice 93, 1, 24, false, [.nils]⟩,
  some ⟨.func, 1, 8, false, [.nilf]⟩,
  some ⟨.int .u64, 1, 8, false, [.int .u64 0]⟩,
  some ⟨.func, 1, 8, false, [.nilf]⟩,
  some ⟨.func, 1, 8, false, [.nilf]⟩,
  some ⟨.func, 1, 8, false, [.nilf]⟩,
  some ⟨.func, 1, 8, false, [.nilf]⟩,
  some ⟨.func, 1, 8, false, [.nilf]⟩,
  some ⟨.func, 1, 8, false, [.nilf]⟩,
  some ⟨.slice 59, 1, 24, false, [.nils]⟩,
  some ⟨.struct [(0, 3), (1, 3), (2, 23), (3, 23), (4, 23), (5, 23), (6, 24), (7, 25), (8, 57)], 9, 184, true, [.int .i64 0, .int .i64 0, .nils, .nils, .nils, .nils, .nils, .nils, .nils]⟩,
  some ⟨.struct [(0, 3), (1, 3), (2, 23), (3, 23), (4, 23), (5, 23), (6, 24), (7, 25), (8, 57)], 9, 184, true, [.int .i64 0, .int .i64 0, .nils, .nils, .nils, .nils, .nils, .nils, .nils]⟩,
  some ⟨.func, 1, 8, false, [.nilf]⟩,
  some ⟨.func, 1, 8, false, [.nilf]⟩,
  some ⟨.func, 1, 8, false, [.nilf]⟩,
  some ⟨.func, 1, 8, false, [.nilf]⟩,
  some ⟨.struct [(0, 9), (1, 3)], 2, 24, true, [.str ByteArray.empty, .int .i64 0]⟩,
  some ⟨.struct [(0, 9), (1, 3)], 2, 24, true, [.str ByteArray.empty, .int .i64 0]⟩,
  some ⟨.struct [(0, 3), (1, 4)], 2, 16, true, [.int .i64 0, .bool false]⟩,
  some ⟨.struct [(0, 3), (1, 4)], 2, 16, true, [.int .i64 0, .bool false]⟩,
  some ⟨.func, 1, 8, false, [.nilf]⟩,
  some ⟨.func, 1, 8, false, [.nilf]⟩,
  none,
  some ⟨.func, 1, 8, false, [.nilf]⟩,
  some ⟨.func, 1, 8, false, [.nilf]⟩,
  some ⟨.func, 1, 8, false, [.nilf]⟩,
  some ⟨.func, 1, 8, false, [.nilf]⟩,
  none,
  some ⟨.func, 1, 8, false, [.nilf]⟩,
  some ⟨.func, 1, 8, false, [.nilf]⟩,
  some ⟨.func, 1, 8, false, [.nilf]⟩,
  some ⟨.func, 1, 8, false, [.nilf]⟩,
  some ⟨.func, 1, 8, false, [.nilf]⟩,
  some ⟨.struct [(0, 3), (1, 44)], 9, 96, true, [.int .i64 0, .int .i64 0, .int .i64 0, .int .i64 0, .int .i64 0, .int .i64 0, .flt .f64 0, .str ByteArray.empty, .nils]⟩,
  some ⟨.struct [(0, 3), (1, 44)], 9, 96, true, [.int .i64 0, .int .i64 0, .int .i64 0, .int .i64 0, .int .i64 0, .int .i64 0, .flt .f64 0, .str ByteArray.empty, .nils]⟩,
  some ⟨.func, 1, 8, false, [.nilf]⟩,
  some ⟨.slice 147, 1, 24, false, [.nils]⟩,
  some ⟨.slice 42, 1, 24, false, [.nils]⟩,
  some ⟨.array 64 5, 64, 64, true, [.int .u8 0, .int .u8 0, .int .u8 0, .int .u8 0, .int .u8 0, .int .u8 0, .int .u8 0, .int .u8 0, .int .u8 0, .int .u8 0, .int .u8 0, .int .u8 0, .int .u8 0, .int .u8 0, .int .u8 0, .int .u8 0, .int .u8 0, .int .u8 0, .int .u8 0, .int .u8 0, .int .u8 0, .int .u8 0, .int .u8 0, .int .u8 0, .int .u8 0, .int .u8 0, .int .u8 0, .int .u8 0, .int .u8 0, .int .u8 0, .int .u8 0, .int .u8 0, .int .u8 0, .int .u8 0, .int .u8 0, .int .u8 0, .int .u8 0, .int .u8 0, .int .u8 0, .int .u8 0, .int .u8 0, .int .u8 0, .int .u8 0, .int .u8 0, .int .u8 0, .int .u8 0, .int .u8 0, .int .u8 0, .int .u8 0, .int .u8 0, .int .u8 0, .int .u8 0, .int .u8 0, .int .u8 0, .int .u8 0, .int .u8 0, .int .u8 0, .int .u8 0, .int .u8 0, .int .u8 0, .int .u8 0, .int .u8 0, .int .u8 0, .int .u8 0]⟩,
  some ⟨.struct [(0, 86)], 64, 64, true, [.int .u8 0, .int .u8 0, .int .u8 0, .int .u8 0, .int .u8 0, .int .u8 0, .int .u8 0, .int .u8 0, .int .u8 0, .int .u8 0, .int .u8 0, .int .u8 0, .int .u8 0, .int .u8 0, .int .u8 0, .int .u8 0, .int .u8 0, .int .u8 0, .int .u8 0, .int .u8 0, .int .u8 0, .int .u8 0, .int .u8 0, .int .u8 0, .int .u8 0, .int .u8 0, .int .u8 0, .int .u8 0, .int .u8 0, .int .u8 0, .int .u8 0, .int .u8 0, .int .u8 0, .int .u8 0, .int .u8 0, .int .u8 0, .int .u8 0, .int .u8 0, .int .u8 0, .int .u8 0, .int .u8 0, .int .u8 0, .int .u8 0, .int .u8 0, .int .u8 0, .int .u8 0, .int .u8 0, .int .u8 0, .int .u8 0, .int .u8 0, .int .u8 0, .int .u8 0, .int .u8 0, .int .u8 0, .int .u8 0, .int .u8 0, .int .u8 0, .int .u8 0, .int .u8 0, .int .u8 0, .int .u8 0, .int .u8 0, .int .u8 0, .int .u8 0]⟩,
  some ⟨.struct [(0, 86)], 64, 64, true, [.int .u8 0, .int .u8 0, .int .u8 0, .int .u8 0, .int .u8 0, .int .u8 0, .int .u8 0, .int .u8 0, .int .u8 0, .int .u8 0, .int .u8 0, .int .u8 0, .int .u8 0, .int .u8 0, .int .u8 0, .int .u8 0, .int .u8 0, .int .u8 0, .int .u8 0, .int .u8 0, .int .u8 0, .int .u8 0, .int .u8 0, .int .u8 0, .int .u8 0, .int .u8 0, .int .u8 0, .int .u8 0, .int .u8 0, .int .u8 0, .int .u8 0, .int .u8 0, .int .u8 0, .int .u8 0, .int .u8 0, .int .u8 0, .int .u8 0, .int .u8 0, .int .u8 0, .int .u8 0, .int .u8 0, .int .u8 0, .int .u8 0, .int .u8 0, .int .u8 0, .int .u8 0, .int .u8 0, .int .u8 0, .int .u8 0, .int .u8 0, .int .u8 0, .int .u8 0, .int .u8 0, .int .u8 0, .int .u8 0, .int .u8 0, .int .u8 0, .int .u8 0, .int .u8 0, .int .u8 0, .int .u8 0, .int .u8 0, .int .u8 0, .int .u8 0]⟩,
  some ⟨.struct [(0, 3), (1, 3), (2, 3), (3, 84), (4, 85), (5, 88)], 69, 136, true, [.int .i64 0, .int .i64 0, .int .i64 0, .nils, .nils, .int .u8 0, .int .u8 0, .int .u8 0, .int .u8 0, .int .u8 0, .int .u8 0, .int .u8 0, .int .u8 0, .int .u8 0, .int .u8 0, .int .u8 0, .int .u8 0, .int .u8 0, .int .u8 0, .int .u8 0, .int .u8 0, .int .u8 0, .int .u8 0, .int .u8 0, .int .u8 0, .int .u8 0, .int .u8 0, .int .u8 0, .int .u8 0, .int .u8 0, .int .u8 0, .int .u8 0, .int .u8 0, .int .u8 0, .int .u8 0, .int .u8 0, .int .u8 0, .int .u8 0, .int .u8 0, .int .u8 0, .int .u8 0, .int .u8 0, .int .u8 0, .int .u8 0, .int .u8 0, .int .u8 0, .int .u8 0, .int .u8 0, .int .u8 0, .int .u8 0, .int .u8 0, .int .u8 0, .int .u8 0, .int .u8 0, .int .u8 0, .int .u8 0, .int .u8 0, .int .u8 0, .int .u8 0, .int .u8 0, .int .u8 0, .int .u8 0, .int .u8 0, .int .u8 0, .int .u8 0, .int .u8 0, .int .u8 0, .int .u8 0, .int .u8 0]⟩,
  some ⟨.struct [(0, 3), (1, 3), (2, 3), (3, 84), (4, 85), (5, 88)], 69, 136, true, [.int .i64 0, .int .i64 0, .int .i64 0, .nils, .nils, .int .u8 0, .int .u8 0, .int .u8 0, .int .u8 0, .int .u8 0, .int .u8 0, .int .u8 0, .int .u8 0, .int .u8 0, .int .u8 0, .int .u8 0, .int .u8 0, .int .u8 0, .int .u8 0, .int .u8 0, .int .u8 0, .int .u8 0, .int .u8 0, .int .u8 0, .int .u8 0, .int .u8 0, .int .u8 0, .int .u8 0, .int .u8 0, .int .u8 0, .int .u8 0, .int .u8 0, .int .u8 0, .int .u8 0, .int .u8 0, .int .u8 0, .int .u8 0, .int .u8 0, .int .u8 0, .int .u8 0, .int .u8 0, .int .u8 0, .int .u8 0, .int .u8 0, .int .u8 0, .int .u8 0, .int .u8 0, .int .u8 0, .int .u8 0, .int .u8 0, .int .u8 0, .int .u8 0, .int .u8 0, .int .u8 0, .int .u8 0, .int .u8 0, .int .u8 0, .int .u8 0, .int .u8 0, .int .u8 0, .int .u8 0, .int .u8 0, .int .u8 0, .int .u8 0, .int .u8 0, .int .u8 0, .int .u8 0, .int .u8 0, .int .u8 0]⟩,
  some ⟨.slice 90, 1, 24, false, [.nils]⟩,
  some ⟨.struct [(0, 3), (1, 91)], 2, 32, true, [.int .i64 0, .nils]⟩,
  some ⟨.struct [(0, 3), (1, 91)], 2, 32, true, [.int .i64 0, .nils]⟩,
  some ⟨.func, 1, 8, false, [.nilf]⟩,
  some ⟨.func, 1, 8, false, [.nilf]⟩,
  some ⟨.func, 1, 8, false, [.nilf]⟩,
  some ⟨.func, 1, 8, false, [.nilf]⟩,
  some ⟨.slice 129, 1, 24, false, [.nils]⟩,
  some ⟨.struct [(0, 3), (1, 98)], 2, 32, true, [.int .i64 0, .nils]⟩,
  some ⟨.struct [(0, 3), (1, 98)], 2, 32, true, [.int .i64 0, .nils]⟩,
  some ⟨.func, 1, 8, false, [.nilf]⟩,
  some ⟨.func, 1, 8, false, [.nilf]⟩,
  some ⟨.func, 1, 8, false, [.nilf]⟩,
  some ⟨.int .u64, 1, 8, false, [.int .u64 0]⟩,
  some ⟨.func, 1, 8, false, [.nilf]⟩,
  some ⟨.func, 1, 8, false, [.nilf]⟩,
  some ⟨.func, 1, 8, false, [.nilf]⟩,
  some ⟨.func, 1, 8, false, [.nilf]⟩,
  some ⟨.func, 1, 8, false, [.nilf]⟩,
  some ⟨.func, 1, 8, false, [.nilf]⟩,
  some ⟨.struct [(0, 23), (1, 48)], 2, 48, true, [.nils, .nils]⟩,
  some ⟨.struct [(0, 23), (1, 48)], 2, 48, true, [.nils, .nils]⟩,
  some ⟨.func, 1, 8, false, [.nilf]⟩,
  some ⟨.func, 1, 8, false, [.nilf]⟩,
  some ⟨.func, 1, 8, false, [.nilf]⟩,
  some ⟨.func, 1, 8, false, [.nilf]⟩,
  some ⟨.func, 1, 8, false, [.nilf]⟩,
  some ⟨.func, 1, 8, false, [.nilf]⟩,
  some ⟨.func, 1, 8, false, [.nilf]⟩,
  some ⟨.func, 1, 8, false, [.nilf]⟩,
  some ⟨.func, 1, 8, false, [.nilf]⟩,
  some ⟨.func, 1, 8, false, [.nilf]⟩,
  some ⟨.func, 1, 8, false, [.nilf]⟩,
  some ⟨.func, 1, 8, false, [.nilf]⟩,
  some ⟨.func, 1, 8, false, [.nilf]⟩,
  some ⟨.func, 1, 8, false, [.nilf]⟩,
  some ⟨.slice 146, 1, 24, false, [.nils]⟩,
  some ⟨.struct [(0, 3), (1, 3), (2, 3), (3, 127), (4, 85), (5, 86)], 69, 136, true, [.int .i64 0, .int .i64 0, .int .i64 0, .nils, .nils, .int .u8 0, .int .u8 0, .int .u8 0, .int .u8 0, .int .u8 0, .int .u8 0, .int .u8 0, .int .u8 0, .int .u8 0, .int .u8 0, .int .u8 0, .int .u8 0, .int .u8 0, .int .u8 0, .int .u8 0, .int .u8 0, .int .u8 0, .int .u8 0, .int .u8 0, .int .u8 0, .int .u8 0, .int .u8 0, .int .u8 0, .int .u8 0, .int .u8 0, .int .u8 0, .int .u8 0, .int .u8 0, .int .u8 0, .int .u8 0, .int .u8 0, .int .u8 0, .int .u8 0, .int .u8 0, .int .u8 0, .int .u8 0, .int .u8 0, .int .u8 0, .int .u8 0, .int .u8 0, .int .u8 0, .int .u8 0, .int .u8 0, .int .u8 0, .int .u8 0, .int .u8 0, .int .u8 0, .int .u8 0, .int .u8 0, .int .u8 0, .int .u8 0, .int .u8 0, .int .u8 0, .int .u8 0, .int .u8 0, .int .u8 0, .int .u8 0, .int .u8 0, .int .u8 0, .int .u8 0, .int .u8 0, .int .u8 0, .int .u8 0, .int .u8 0]⟩,
  some ⟨.struct [(0, 3), (1, 3), (2, 3), (3, 127), (4, 85), (5, 86)], 69, 136, true, [.int .i64 0, .int .i64 0, .int .i64 0, .nils, .nils, .int .u8 0, .int .u8 0, .int .u8 0, .int .u8 0, .int .u8 0, .int .u8 0, .int .u8 0, .int .u8 0, .int .u8 0, .int .u8 0, .int .u8 0, .int .u8 0, .int .u8 0, .int .u8 0, .int .u8 0, .int .u8 0, .int .u8 0, .int .u8 0, .int .u8 0, .int .u8 0, .int .u8 0, .int .u8 0, .int .u8 0, .int .u8 0, .int .u8 0, .int .u8 0, .int .u8 0, .int .u8 0, .int .u8 0, .int .u8 0, .int .u8 0, .int .u8 0, .int .u8 0, .int .u8 0, .int .u8 0, .int .u8 0, .int .u8 0, .int .u8 0, .int .u8 0, .int .u8 0, .int .u8 0, .int .u8 0, .int .u8 0, .int .u8 0, .int .u8 0, .int .u8 0, .int .u8 0, .int .u8 0, .int .u8 0, .int .u8 0, .int .u8 0, .int .u8 0, .int .u8 0, .int .u8 0, .int .u8 0, .int .u8 0, .int .u8 0, .int .u8 0, .int .u8 0, .int .u8 0, .int .u8 0, .int .u8 0, .int .u8 0, .int .u8 0]⟩,
  some ⟨.func, 1, 8, false, [.nilf]⟩,
  some ⟨.func, 1, 8, false, [.nilf]⟩,
  none,
  some ⟨.func, 1, 8, false, [.nilf]⟩,
  some ⟨.func, 1, 8, false, [.nilf]⟩,
  none,
  some ⟨.func, 1, 8, false, [.nilf]⟩,
  some ⟨.func, 1, 8, false, [.nilf]⟩,
  some ⟨.func, 1, 8, false, [.nilf]⟩,
  some ⟨.slice 50, 1, 24, false, [.nils]⟩,
  some ⟨.func, 1, 8, false, [.nilf]⟩,
  some ⟨.func, 1, 8, false, [.nilf]⟩,
  some ⟨.func, 1, 8, false, [.nilf]⟩,
  none,
  some ⟨.func, 1, 8, false, [.nilf]⟩,
  some ⟨.struct [(0, 42), (4, 42), (8, 3), (9, 3)], 10, 96, true, [.int .i64 0, .int .i64 0, .flt .f64 0, .str ByteArray.empty, .int .i64 0, .int .i64 0, .flt .f64 0, .str ByteArray.empty, .int .i64 0, .int .i64 0]⟩,
  some ⟨.struct [(0, 42), (4, 42), (8, 3), (9, 3)], 10, 96, true, [.int .i64 0, .int .i64 0, .flt .f64 0, .str ByteArray.empty, .int .i64 0, .int .i64 0, .flt .f64 0, .str ByteArray.empty, .int .i64 0, .int .i64 0]⟩,
  some ⟨.struct [(0, 42), (4, 42), (8, 3), (9, 3)], 10, 96, true, [.int .i64 0, .int .i64 0, .flt .f64 0, .str ByteArray.empty, .int .i64 0, .int .i64 0, .flt .f64 0, .str ByteArray.empty, .int .i64 0, .int .i64 0]⟩,
  some ⟨.func, 1, 8, false, [.nilf]⟩,
  some ⟨.func, 1, 8, false, [.nilf]⟩,
  some ⟨.func, 1, 8, false, [.nilf]⟩,
  some ⟨.func, 1, 8, false, [.nilf]⟩,
  some ⟨.func, 1, 8, false, [.nilf]⟩,
  some ⟨.slice 23, 1, 24, false, [.nils]⟩,
  some ⟨.func, 1, 8, false, [.nilf]⟩,
  some ⟨.func, 1, 8, false, [.nilf]⟩,
  some ⟨.func, 1, 8, false, [.nilf]⟩,
  some ⟨.func, 1, 8, false, [.nilf]⟩,
  some ⟨.func, 1, 8, false, [.nilf]⟩,
  some ⟨.func, 1, 8, false, [.nilf]⟩,
  some ⟨.func, 1, 8, false, [.nilf]⟩,
  some ⟨.ifc, 1, 16, false, [.nili]⟩,
  some ⟨.ifc, 1, 16, false, [.nili]⟩,
  some ⟨.func, 1, 8, false, [.nilf]⟩,
  some ⟨.func, 1, 8, false, [.nilf]⟩,
  some ⟨.func, 1, 8, false, [.nilf]⟩,
  some ⟨.func, 1, 8, false, [.nilf]⟩,
  some ⟨.func, 1, 8, false, [.nilf]⟩,
  some ⟨.func, 1, 8, false, [.nilf]⟩,
  none,
  some ⟨.func, 1, 8, false, [.nilf]⟩,
  some ⟨.func, 1, 8, false, [.nilf]⟩,
  some ⟨.func, 1, 8, false, [.nilf]⟩,
  some ⟨.func, 1, 8, false, [.nilf]⟩,
  some ⟨.func, 1, 8, false, [.nilf]⟩,
  some ⟨.func, 1, 8, false, [.nilf]⟩,
  some ⟨.func, 1, 8, false, [.nilf]⟩,
  some ⟨.func, 1, 8, false, [.nilf]⟩,
  some ⟨.func, 1, 8, false, [.nilf]⟩,
  some ⟨.func, 1, 8, false, [.nilf]⟩,
  some ⟨.func, 1, 8, false, [.nilf]⟩,
  some ⟨.func, 1, 8, false, [.nilf]⟩,
  some ⟨.func, 1, 8, false, [.nilf]⟩,
  some ⟨.ptr 200, 1, 8, false, [.nilp]⟩,
  some ⟨.func, 1, 8, false, [.nilf]⟩,
  some ⟨.struct [(0, 17), (1, 17), (2, 17), (3, 9)], 4, 40, true, [.nilp, .nilp, .nilp, .str ByteArray.empty]⟩,
  some ⟨.struct [(0, 17), (1, 17), (2, 17), (3, 9)], 4, 40, true, [.nilp, .nilp, .nilp, .str ByteArray.empty]⟩,
  some ⟨.array 0 16, 0, 0, true, []⟩,
  some ⟨.struct [(0, 187)], 0, 0, true, []⟩,
  some ⟨.struct [(0, 187)], 0, 0, true, []⟩,
  some ⟨.func, 1, 8, false, [.nilf]⟩,
  some ⟨.int .u8, 1, 1, false, [.int .u8 0]⟩,
  some ⟨.int .u8, 1, 1, false, [.int .u8 0]⟩,
  some ⟨.func, 1, 8, false, [.nilf]⟩,
  some ⟨.ptr 5, 1, 8, false, [.nilp]⟩,
  some ⟨.int .i32, 1, 4, false, [.int .i32 0]⟩,
  some ⟨.int .i32, 1, 4, false, [.int .i32 0]⟩,
  some ⟨.struct [(0, 12), (1, 12), (2, 46), (3, 191), (4, 5), (5, 5), (6, 192), (7, 193), (8, 194), (9, 195), (10, 196)], 11, 48, true, [.int .u64 0, .int .u64 0, .int .u32 0, .int .u8 0, .int .u8 0, .int .u8 0, .int .u8 0, .nilf, .nilp, .int .i32 0, .int .i32 0]⟩,
  some ⟨.struct [(0, 12), (1, 12), (2, 46), (3, 191), (4, 5), (5, 5), (6, 192), (7, 193), (8, 194), (9, 195), (10, 196)], 11, 48, true, [.int .u64 0, .int .u64 0, .int .u32 0, .int .u8 0, .int .u8 0, .int .u8 0, .int .u8 0, .nilf, .nilp, .int .i32 0, .int .i32 0]⟩,
  some ⟨.struct [(0, 9)], 1, 16, true, [.str ByteArray.empty]⟩,
  some ⟨.struct [(0, 9)], 1, 16, true, [.str ByteArray.empty]⟩,
  some ⟨.scalar, 1, 8, false, [.nilp]⟩]
def D : Nat → Option (Nat × IntKind)
  | 67 => some (32, .i64)
  | _ => none
theorem gd67 : GuardOk Go.Proofs.Try.prog (tabOf tabL) 67 32 .i64 := by
  refine ⟨f67, f91, 91, 20, 4, 143, 1, 2, "expr.go:54", "expr.go:55", "expr.go:63", "expr.go:64", "expr.go:56", "expr.go:57", "expr.go:58", "expr.go:59", #[⟨0, .data⟩, ⟨0, .chain⟩, ⟨0, .phase⟩], #[⟨0, .data⟩], #[⟨0, .data⟩], #[⟨1, .data⟩], #[⟨2, .data⟩], #[⟨2, .data⟩, ⟨5, .gcOnly .lateStores⟩], #[⟨3, .data⟩, ⟨0, .phase⟩, ⟨1, .phase⟩, ⟨2, .phase⟩, ⟨3, .phase⟩, ⟨4, .textOnly .lateStores⟩], #[⟨4, .data⟩, ⟨5, .chain⟩, ⟨0, .phase⟩, ⟨1, .phase⟩, ⟨2, .phase⟩, ⟨3, .phase⟩, ⟨4, .phase⟩, ⟨5, .phase⟩], #[], #[⟨0, .data⟩, ⟨0, .phase⟩], ⟨⟨_, _, rfl⟩, ⟨_, rfl, fun i h => nomatch h⟩, ⟨_, rfl⟩⟩, by kernel_rfl, by kernel_rfl, by kernel_rfl, by kernel_rfl, by kernel_rfl, by kernel_rfl, by kernel_rfl, by kernel_rfl, by decide⟩
noncomputable def G : Cfg := cfgT Go.Proofs.Try.prog (tabOf tabL) M K D
theorem D_ok (f te : Nat) (k : IntKind) (h : D f = some (te, k)) : GuardOk Go.Proofs.Try.prog (tabOf tabL) f te k := by
  unfold D at h
  split at h
  · simp only [Option.some.injEq, Prod.mk.injEq] at h
    obtain ⟨rfl, rfl⟩ := h
    exact gd67
  · cases h
theorem G_ok : GOk G := cfgT_ok _ (tab_ok (by kernel_rfl)) M K D D_ok
theorem GP : G.P = Go.Proofs.Try.prog := rfl
theorem t1 : G.T 1 = some ⟨.func, 1, 8, false, [.nilf]⟩ := rfl
theorem t2 : G.T 2 = some ⟨.int .i64, 1, 8, false, [.int .i64 0]⟩ := rfl
theorem t3 : G.T 3 = some ⟨.int .i64, 1, 8, false, [.int .i64 0]⟩ := rfl
theorem t9 : G.T 9 = some ⟨.str, 1, 16, false, [.str ByteArray.empty]⟩ := rfl
theorem t22 : G.T 22 = some ⟨.slice 9, 1, 24, false, [.nils]⟩ := rfl
theorem t23 : G.T 23 = some ⟨.slice 44, 1, 24, false, [.nils]⟩ := rfl
theorem t24 : G.T 24 = some ⟨.slice 82, 1, 24, false, [.nils]⟩ := rfl
theorem t25 : G.T 25 = some ⟨.slice 67, 1, 24, false, [.nils]⟩ := rfl
theorem t28 : G.T 28 = some ⟨.slice 38, 1, 24, false, [.nils]⟩ := rfl
theorem t31 : G.T 31 = some ⟨.slice 3, 1, 24, false, [.nils]⟩ := rfl
theorem t36 : G.T 36 = some ⟨.slice 65, 1, 24, false, [.nils]⟩ := rfl
theorem t38 : G.T 38 = some ⟨.struct [(0, 9), (1, 36)], 2, 40, true, [.str ByteArray.empty, .nils]⟩ := rfl
theorem t44 : G.T 44 = some ⟨.struct [(0, 3), (1, 3), (2, 3), (3, 42), (7, 23)], 8, 88, true, [.int .i64 0, .int .i64 0, .int .i64 0, .int .i64 0, .int .i64 0, .flt .f64 0, .str ByteArray.empty, .nils]⟩ := rfl
theorem t65 : G.T 65 = some ⟨.struct [(0, 9), (1, 3)], 2, 24, true, [.str ByteArray.empty, .int .i64 0]⟩ := rfl
theorem t67 : G.T 67 = some ⟨.struct [(0, 3), (1, 4)], 2, 16, true, [.int .i64 0, .bool false]⟩ := rfl
theorem t82 : G.T 82 = some ⟨.struct [(0, 3), (1, 44)], 9, 96, true, [.int .i64 0, .int .i64 0, .int .i64 0, .int .i64 0, .int .i64 0, .int .i64 0, .flt .f64 0, .str ByteArray.empty, .nils]⟩ := rfl
end Go.Ab.S1
