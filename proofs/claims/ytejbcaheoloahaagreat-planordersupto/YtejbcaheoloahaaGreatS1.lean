import Derived.Test.YtejbcaheoloahaaGreatProg
import Derived.Test.YtejbcaheoloahaaGreatAbRow
import Derived.Test.YtejbcaheoloahaaGreatAbPan
import Derived.Test.YtejbcaheoloahaaGreatAbPart
namespace Go.Ab.S1
open Go Go.Ab
open Go.Proofs.Tryz
set_option maxRecDepth 100000
def M:Nat→Mode
  | 49=>.byref
  | 52=>.byref
  | 53=>.byref
  | 54=>.byref
  | 57=>.byref
  | 58=>.byref
  | 59=>.byref
  | 60=>.byref
  | 62=>.byref
  | 123=>.byref
  | 124=>.byref
  | 127=>.byref
  | 134=>.byref
  | 135=>.byref
  | 144=>.byref
  | 145=>.byref
  | 183=>.byref
  | 210=>.byref
  | 212=>.own
  | 216=>.byref
  | _=>.pure
def K6:Nat→List Nat
  | 0=>[0,1,3,10]
  | 2=>[14]
  | 4=>[2,4,5,6,8,15]
  | 6=>[15,16]
  | 8=>[8,17,18,19,20,21,22,23,24]
  | 10=>[25,26,27,28,29,30,31,32,33,34,35,36,37]
  | 12=>[2,4,5,6,11,38]
  | 14=>[11,38,39,40,41,42]
  | 16=>[2,4,5,6,43]
  | 18=>[4,43,44,45,46,47,48,49,50,51,52]
  | 20=>[53]
  | 22=>[6,12,54,55,56,57,58,59,60,61,62,63,64,65]
  | 24=>[66,67,68,69]
  | 26=>[2,5,13,70]
  | 28=>[70,71,72,73]
  | 30=>[74,75,76,77,78]
  | 32=>[2,5,13,79,80,81,82,83]
  | 34=>[2,5,13,74]
  | _=>[]
def K10:Nat→List Nat
  | 0=>[0,4]
  | 2=>[2,7,8,9,10,11,12,13]
  | 4=>[1,14]
  | 6=>[1,14]
  | 10=>[18,19,20]
  | 12=>[6,21,22,23,24,25,26,27,28,29]
  | 14=>[15,16,17,30]
  | 16=>[30,31]
  | 18=>[15,16,17,18]
  | _=>[]
def K12:Nat→List Nat
  | 0=>[0,4,5]
  | 2=>[1,12,13,14,15,16,17]
  | 4=>[18]
  | 6=>[2,6,7,19,20]
  | 8=>[7,19,21,22]
  | 10=>[2,6,23]
  | 12=>[6,23,24]
  | 18=>[25]
  | 20=>[26,27,28,29]
  | 22=>[30]
  | 24=>[31,32,33,34,35]
  | 26=>[31,36]
  | 28=>[2,8,10,11,37,38,39,40,41]
  | 30=>[2,8,10,11,37,42]
  | 32=>[7,9,43,44]
  | 34=>[7,9,43,45]
  | _=>[]
def K29:Nat→List Nat
  | 0=>[0,2]
  | 2=>[1,3,4,5]
  | _=>[]
def K30:Nat→List Nat
  | 0=>[0,1,6]
  | 2=>[2,7,9,10,11,12,13,14]
  | 4=>[15]
  | 6=>[3,4,8,16,17]
  | 8=>[3,4,8,16,18,19,20,21,22,23,24,25]
  | 10=>[26]
  | 12=>[26]
  | _=>[]
def K32:Nat→List Nat
  | 0=>[0]
  | 2=>[9,10,11,12,13,14,15,16]
  | 4=>[17,18,19,20]
  | 6=>[21,22,23,24,25,26]
  | 8=>[27,28]
  | 10=>[29,30,31,32,33,34,35,36,37,38]
  | 12=>[2,39,40,41,42,43,44,45,46]
  | 14=>[4,5,47,48,49,50,51,52]
  | 16=>[1,3,6,7,8,53,54,55,56,57,58,59,60,61,62,63,64,65,66,67,68,69,70,71,72,73,74,75,76,77,78,79,80]
  | _=>[]
def K34:Nat→List Nat
  | 0=>[0,2]
  | 4=>[1,4,5,6]
  | 6=>[3,7]
  | _=>[]
def K36:Nat→List Nat
  | 0=>[0,2]
  | 2=>[1,3,4,5]
  | _=>[]
def K38:Nat→List Nat
  | 0=>[0,2]
  | 4=>[1,4,5,6]
  | 6=>[3,7]
  | _=>[]
def K45:Nat→List Nat
  | 0=>[0,2]
  | 2=>[1,3,4,5,6,7,8,9]
  | _=>[]
def K46:Nat→List Nat
  | 0=>[0,4]
  | 2=>[8,9,10,11,12,13,14,15,16,17,18,19,20,21,22,23,24,25]
  | 4=>[1,2,26,27,28]
  | 6=>[26,29,30,31,32,33,34,35,36,37,38,39]
  | 10=>[40,41,42,43]
  | 12=>[45,46]
  | 14=>[44,47,48,49,50,51,52,53,54,55,56,57,58]
  | 16=>[1,2,5,6,59,60,61]
  | 18=>[59,62,63,64,65,66,67,68,69]
  | 20=>[6,44,70,71]
  | 22=>[72,73,74,75,76,77,78,79,80]
  | 24=>[72,81,82]
  | 26=>[83,84,85,86,87,88,89,90,91]
  | 28=>[83]
  | 30=>[92,93,94,95,96,97,98,99,100]
  | 32=>[102,103]
  | 34=>[101,104,105,106,107,108,109,110,111,112,113,114,115,116]
  | 36=>[1,2,5,7,101,117]
  | _=>[]
def K47:Nat→List Nat
  | 0=>[0,1,4,5]
  | 2=>[9,10,11,12]
  | 4=>[2,3,8]
  | 6=>[8,14,15,16,17]
  | 8=>[2,3,13]
  | 10=>[13]
  | 12=>[2,3,18,19,20,21]
  | 14=>[22]
  | 16=>[6,7,23,24]
  | 18=>[6,7,23,25]
  | _=>[]
def K48:Nat→List Nat
  | 0=>[0,2]
  | 2=>[3,4,5,6,7,8,9,10,11,12,13,14,15,16,17,18,19,20,21,22,23]
  | 4=>[1,24]
  | 6=>[24,25,26,27,28,29,30,31,32,33,34,35,36,37,38,39,40,41,42,43]
  | 8=>[1,44]
  | 10=>[44,45,46]
  | 12=>[1,47]
  | 14=>[1,47,48,49,50,51,52]
  | _=>[]
def K49:Nat→List Nat
  | 0=>[0,7]
  | 2=>[3,4,10,11,12,13,14,15]
  | 4=>[1,16,17,18,19,20,21,22]
  | 6=>[23]
  | 8=>[23,24]
  | 10=>[2,8,25,26,27,28]
  | 12=>[2,8,9,25,29]
  | _=>[]
def K50:Nat→List Nat
  | 0=>[0,1,4,5]
  | 2=>[8,9]
  | 4=>[2,3,10]
  | 6=>[10]
  | 8=>[2,3,11,12]
  | 10=>[13]
  | 12=>[6,7,14,15]
  | 14=>[6,7,14,16]
  | _=>[]
def K51:Nat→List Nat
  | 0=>[0,2]
  | _=>[]
def K52:Nat→List Nat
  | 0=>[0,1,3,4,5,6]
  | _=>[]
def K53:Nat→List Nat
  | 0=>[4]
  | 2=>[0]
  | 6=>[11,12,13]
  | 8=>[6,14,15,16]
  | 10=>[17]
  | 12=>[1,7,8,9,10,18,19]
  | 14=>[7,18,20]
  | 16=>[1,8,9,10,11]
  | _=>[]
def K54:Nat→List Nat
  | 0=>[0,3]
  | 2=>[1,2,4,5,6]
  | _=>[]
def K55:Nat→List Nat
  | 0=>[2]
  | 2=>[0,3,4,5,6,7,8]
  | _=>[]
def K57:Nat→List Nat
  | 0=>[0,5]
  | 2=>[1,2,3,4,6,7,8,9,10]
  | _=>[]
def K58:Nat→List Nat
  | 0=>[4]
  | 2=>[0]
  | 6=>[11,12,13]
  | 8=>[6,14,15,16]
  | 10=>[17]
  | 12=>[1,7,8,9,10,18,19]
  | 14=>[7,18,20]
  | 16=>[1,8,9,10,11]
  | _=>[]
def K59:Nat→List Nat
  | 0=>[0,5]
  | 2=>[6]
  | 4=>[9]
  | 6=>[1,2,3,4,7,8,10,11,12,13,14,15]
  | 8=>[7,8,17]
  | 10=>[1,2,3,4,16,18,19,20,21,22]
  | 12=>[1,2,3,4,16,23,24,25,26,27,28]
  | _=>[]
def K60:Nat→List Nat
  | 0=>[0,1,3,4]
  | _=>[]
def K61:Nat→List Nat
  | 0=>[2]
  | 2=>[0,3,4,5,6,7,8]
  | _=>[]
def K62:Nat→List Nat
  | 0=>[0,1,3,4]
  | _=>[]
def K88:Nat→List Nat
  | 0=>[0,1,4]
  | 2=>[2,3,5,6,7,8,9,10,11,12,13,14,15,16,17,18,19,20,21,22,23,24,25,26,27,28,29,30,31,32,33,34,35,36,37,38,39,40,41,42,43,44,45,46]
  | _=>[]
def K90:Nat→List Nat
  | 0=>[6]
  | 2=>[10,11,12,13]
  | 4=>[0,1,2,14]
  | 6=>[0,14]
  | 10=>[18,19,20,21]
  | 12=>[7,22,23,24,25]
  | 14=>[8,9,26,27,28,29]
  | 16=>[1,2,15,16,17,30]
  | 18=>[30,31]
  | 20=>[1,2,15,16,17,18]
  | _=>[]
def K91:Nat→List Nat
  | 0=>[6]
  | 2=>[10,11,12,13]
  | 4=>[0,1,2,14]
  | 6=>[0,14]
  | 10=>[18,19,20,21]
  | 12=>[7,22,23,24,25]
  | 14=>[8,9,26,27,28,29]
  | 16=>[1,2,15,16,17,30]
  | 18=>[30,31]
  | 20=>[1,2,15,16,17,18]
  | _=>[]
def K92:Nat→List Nat
  | 0=>[4]
  | 2=>[6,7,8,9]
  | 4=>[0,1,10]
  | 6=>[10,11]
  | 10=>[14,15]
  | 12=>[5,16,17,18,19,20,21,22,23]
  | 14=>[0,1,12,13,24]
  | 16=>[24,25]
  | 18=>[0,1,12,13,14]
  | _=>[]
def K97:Nat→List Nat
  | 0=>[0]
  | 2=>[6,7]
  | 4=>[8]
  | 6=>[3]
  | 10=>[12,13,14]
  | 12=>[5,15,16,17,18,19,20,21]
  | 14=>[22]
  | 16=>[1,9,10,11,12,23]
  | _=>[]
def K98:Nat→List Nat
  | 0=>[4]
  | 2=>[7,8,9]
  | 4=>[0,1,10,11,12]
  | 6=>[10,13,14]
  | 10=>[15,16,17,18,19,20,21,22]
  | 12=>[24,25,48]
  | 14=>[23,26,27,28,29,30,31,32,33]
  | 16=>[0,1,5,6,34,35,36]
  | 18=>[34,37,38,39,40,41,42,43,44,45]
  | 20=>[46,47]
  | 22=>[48,49,50,51,52,53,54,55,56,57,58,59]
  | 24=>[0,1,5,6,23,60]
  | _=>[]
def K112:Nat→List Nat
  | 0=>[0,2]
  | 4=>[6,7,8,9,10,11,12,13,14,15,16,17]
  | 6=>[18,19,20,21,22]
  | 8=>[1,18,23]
  | 12=>[27,28,29]
  | 14=>[5,30,31,32,33]
  | 16=>[34]
  | 18=>[3,24,25,26,27,35]
  | _=>[]
def K113:Nat→List Nat
  | 0=>[0,4]
  | 2=>[7,8,9,10,11,12,13,14,15,16,17,18]
  | 4=>[19,20]
  | 6=>[21,22,23,24,25,26,27,28,29,30]
  | 8=>[21]
  | 10=>[31,32,33,34,35,36,37,38,39]
  | 12=>[41,42]
  | 14=>[40,43,44,45,46,47,48,49,50,51,52,53]
  | 16=>[1,2,5,6,40,54]
  | _=>[]
def K114:Nat→List Nat
  | 0=>[0,1,4]
  | 2=>[6,7,8]
  | 4=>[9,10,11,12,13,14,15,16,17,18,19]
  | 6=>[2,3,20]
  | 8=>[20,21,22,23,24]
  | 10=>[9]
  | 12=>[25]
  | 14=>[26]
  | 16=>[5,26,27,28,29,30,31,32,33,34,35,36,37,38,39,40,41,42,43,44,45]
  | 18=>[2,3,46]
  | 20=>[2,3,46,47,48,49,50,51,52,53,54,55,56,57,58,59,60,61,62,63,64]
  | _=>[]
def K119:Nat→List Nat
  | 2=>[0,1,5,6,7]
  | _=>[]
def K120:Nat→List Nat
  | 0=>[0,1]
  | 2=>[2,3,5,6,7,8,9]
  | _=>[]
def K123:Nat→List Nat
  | 0=>[0]
  | 2=>[6]
  | 6=>[10,11,12]
  | 8=>[5,13,14,15]
  | 10=>[16]
  | 12=>[1,2,7,8,9,10,17,18,19]
  | _=>[]
def K124:Nat→List Nat
  | 0=>[0]
  | 2=>[6]
  | 6=>[10,11,12]
  | 8=>[4,13,14,15,16,17,18,19]
  | 10=>[20]
  | 12=>[7,8,9,10,21,22,23,24,25,26,27]
  | 14=>[28,29,30,31,32,33,34]
  | 18=>[37,38]
  | 20=>[5,39,40,41,42,43,44,45,46,47,48,49,50,51,52,53,54,55,56,57]
  | 22=>[58]
  | _=>[]
def K125:Nat→List Nat
  | 0=>[0,6]
  | 2=>[9,10,11,12,13,14,15,16,17,18,19,20,21,22,23,24,25,26,27,28,29,30,31,32]
  | 4=>[1,2,3,33]
  | 6=>[33,34,35]
  | 8=>[3,36]
  | 12=>[40,41,42]
  | 14=>[8,43,44,45,46,47]
  | 16=>[48]
  | 18=>[1,2,37,38,39,49]
  | 20=>[49,50]
  | 22=>[1,2,37,38,39,40,51]
  | _=>[]
def K127:Nat→List Nat
  | 0=>[0]
  | 2=>[3,4,5,6,7,8,9,10,11,12,13,14]
  | 4=>[1,2,15,16,17,18,19,20,21]
  | _=>[]
def K128:Nat→List Nat
  | 0=>[0,1,4]
  | 2=>[2,3,5,6,7,8,9,10,11,12,13,14,15,16]
  | _=>[]
def K134:Nat→List Nat
  | 0=>[4]
  | 2=>[0]
  | 6=>[11,12,13]
  | 8=>[6,14,15,16]
  | 10=>[17]
  | 12=>[1,7,8,9,10,18,19]
  | 14=>[7,18,20]
  | 16=>[1,8,9,10,11]
  | _=>[]
def K135:Nat→List Nat
  | 0=>[0,4]
  | 2=>[6,7,8]
  | 4=>[9]
  | 6=>[1,2,3,5,10]
  | 8=>[1,2,3,5,10,11,12,13,14,15,16,17,18,19,20,21]
  | _=>[]
def K136:Nat→List Nat
  | 0=>[4]
  | 2=>[6]
  | 6=>[9,10]
  | 8=>[11,12,13,14,15]
  | 10=>[0,1,5,7,8,16,17]
  | 12=>[5,16,18]
  | 14=>[0,1,7,8,9]
  | _=>[]
def K137:Nat→List Nat
  | 0=>[0,3]
  | 2=>[1,2,4,5,6,7]
  | _=>[]
def K138:Nat→List Nat
  | 0=>[2]
  | 2=>[3]
  | 4=>[0,4]
  | 6=>[0,4,5,6,7]
  | _=>[]
def K139:Nat→List Nat
  | 0=>[4]
  | 2=>[0,1,5,6,7,8]
  | _=>[]
def K140:Nat→List Nat
  | 0=>[0,2]
  | 2=>[1,3,4,5,6,7,8,9,10]
  | _=>[]
def K141:Nat→List Nat
  | 0=>[4]
  | 2=>[0,1,5,6,7,8]
  | _=>[]
def K142:Nat→List Nat
  | 0=>[0,3]
  | 2=>[1,2,4,5,6,7,8,9,10,11,12,13]
  | _=>[]
def K143:Nat→List Nat
  | 0=>[0,2]
  | 2=>[1,3,4,5]
  | _=>[]
def K144:Nat→List Nat
  | 2=>[3]
  | 4=>[0,4,5]
  | _=>[]
def K145:Nat→List Nat
  | 0=>[3,4,5]
  | 2=>[0,1,2,6,7,8]
  | _=>[]
def K146:Nat→List Nat
  | 0=>[0]
  | 2=>[6,7]
  | 4=>[8,9,10,11]
  | 6=>[2,8,12]
  | 10=>[16,17,18]
  | 12=>[5,19,20,21]
  | 14=>[22]
  | _=>[]
def K147:Nat→List Nat
  | 0=>[0,4]
  | 4=>[8]
  | 8=>[12,13,14]
  | 10=>[7,15,16,17,18,19,20]
  | 12=>[21]
  | 14=>[9,10,11,12,22]
  | 16=>[25]
  | 18=>[1,2,5,23,24,26,27,28]
  | 20=>[1,24,30]
  | 22=>[2,5,23,29,31,32,33]
  | 24=>[2,29,35]
  | 26=>[36]
  | 28=>[37]
  | 30=>[5,23,34,38,39,40,41,42,43,44]
  | 32=>[34,46]
  | 34=>[5,23,45,47,48,49,50,51,52,53]
  | 36=>[45,55]
  | 38=>[56]
  | 40=>[57]
  | 42=>[5,23,54,58,59,60,61,62,63,64]
  | 44=>[54,66]
  | 46=>[67]
  | 48=>[5,23,65,68,69,70,71,72,73,74]
  | 50=>[23,65,76]
  | 52=>[5,75,77,78,79,80,81,82,83]
  | 54=>[5,75]
  | _=>[]
def K155:Nat→List Nat
  | 0=>[0,1,4]
  | 2=>[2,3,5,6,7,8]
  | _=>[]
def K166:Nat→List Nat
  | 0=>[0,4]
  | 4=>[2,8,9,10]
  | 6=>[1,5,6,7,11,12,13,14,15,16,17,18,19,20,21,22,23,24]
  | _=>[]
def K167:Nat→List Nat
  | 0=>[4]
  | 2=>[1,9,10]
  | 4=>[0]
  | 8=>[14,15,16]
  | 10=>[7,17,18,19]
  | 12=>[20]
  | 14=>[5,8,11,12,13,21]
  | 16=>[8,21,22,23,24,25,26]
  | 18=>[27]
  | 20=>[5,11,12,13,14,28,29,30]
  | _=>[]
def K174:Nat→List Nat
  | 0=>[2]
  | 2=>[0]
  | 4=>[5]
  | 6=>[3,4]
  | 8=>[4,7]
  | 10=>[8]
  | 12=>[9]
  | 14=>[3,6]
  | 16=>[6,11]
  | 18=>[12]
  | 20=>[3,13]
  | 22=>[3,10]
  | 24=>[3,10]
  | _=>[]
def K175:Nat→List Nat
  | 0=>[0,2]
  | 2=>[8,9,10,11,12,13,14,15,16,17,18,19,20,21,22,23,24,25,26]
  | 4=>[27]
  | 6=>[30]
  | 8=>[31]
  | 10=>[1,29,33]
  | 12=>[34]
  | 14=>[32,36]
  | 16=>[35,38]
  | 18=>[28,37,40]
  | 20=>[1,3,4,28,29,41,42,43,44,45,46,47,48,49,50,51,52]
  | 22=>[5,6,7,53]
  | 24=>[53]
  | 26=>[28,32]
  | 28=>[5,28,35,54]
  | 30=>[3,4,6,7,55]
  | 32=>[55]
  | 34=>[28,37]
  | 36=>[7,39,56]
  | 38=>[3,4,5,6,57]
  | 40=>[57]
  | 42=>[3,4,5,6,7,39,58,59,60,61,62,63,64,65,66,67]
  | _=>[]
def K176:Nat→List Nat
  | 0=>[0,2]
  | 2=>[5,6,7,8,9,10,11,12]
  | 6=>[16,17,18]
  | 8=>[4,19,20,21,22,23,24]
  | 10=>[1,13,14,15,25]
  | 12=>[25,26]
  | 14=>[13,14,15,16,27,28,29,30,31,32,33,34]
  | 16=>[1,35]
  | 18=>[35,36,37,38,39,40,41,42,43]
  | 20=>[1,44]
  | 22=>[1,44,45,46,47,48,49,50,51,52,53,54,55,56,57,58,59,60,61,62]
  | _=>[]
def K180:Nat→List Nat
  | 0=>[4]
  | 2=>[6]
  | 6=>[9,10]
  | 8=>[11,12,13,14,15]
  | 10=>[0,1,5,7,8,16,17]
  | 12=>[5,16,18]
  | 14=>[0,1,7,8,9]
  | _=>[]
def K181:Nat→List Nat
  | 0=>[4]
  | 2=>[6]
  | 6=>[9,10]
  | 8=>[11,12,13,14,15]
  | 10=>[0,1,5,7,8,16,17]
  | 12=>[5,16,18]
  | 14=>[0,1,7,8,9]
  | _=>[]
def K182:Nat→List Nat
  | 0=>[0,6]
  | 2=>[9,10,11,12,13,14,15,16,17,18,19,20,21,22,23,24,25,26,27]
  | 4=>[1,2,3,28]
  | 6=>[28,29,30]
  | 8=>[3,31]
  | 12=>[35,36,37]
  | 14=>[8,38,39,40,41,42]
  | 16=>[43]
  | 18=>[1,2,32,33,34,44]
  | 20=>[44,45]
  | 22=>[1,2,32,33,34,35,46]
  | _=>[]
def K183:Nat→List Nat
  | 0=>[4]
  | 2=>[5]
  | 4=>[6]
  | 6=>[1,7,8,9,10,11]
  | 8=>[3]
  | 10=>[0,2,12,13]
  | _=>[]
def K184:Nat→List Nat
  | 0=>[0,4]
  | 2=>[5,6,7,8,9,10,11,12,13,14,15,16,17,18,19,20]
  | 4=>[21,22]
  | 6=>[1,2,21,23,24,25,26,27,28,29,30,31,32,33]
  | _=>[]
def K185:Nat→List Nat
  | 0=>[6]
  | 2=>[2,7,8,9,10,11,12,13,14,15,16,17,18,19,20,21,22,23,24,25,26,27,28]
  | 4=>[29,30]
  | 6=>[0,1,29,31,32,33]
  | _=>[]
def K186:Nat→List Nat
  | 0=>[2]
  | 2=>[0,3,4,5,6,7,8,9,10,11,12]
  | _=>[]
def K187:Nat→List Nat
  | 0=>[0,2]
  | _=>[]
def K188:Nat→List Nat
  | 0=>[2]
  | 2=>[0,3,4,5,6,7,8]
  | _=>[]
def K189:Nat→List Nat
  | 0=>[0]
  | 2=>[4,5,6]
  | 4=>[1,3,7]
  | 6=>[3,9,10,11,12,13,14,15,16]
  | 8=>[8,17,18]
  | 10=>[8,20,21,22,23,24,25,26,27]
  | 12=>[19,28]
  | 14=>[1,19,29]
  | _=>[]
def K192:Nat→List Nat
  | 0=>[2]
  | 2=>[0]
  | 4=>[5]
  | 6=>[6]
  | 8=>[3,4]
  | 10=>[4,8]
  | 12=>[9]
  | 14=>[10]
  | 16=>[3,7]
  | 18=>[7,12]
  | 20=>[13]
  | 22=>[14]
  | 24=>[15]
  | 26=>[16]
  | 28=>[17]
  | 30=>[18]
  | 32=>[3,19]
  | 34=>[3,11]
  | 36=>[3,11]
  | _=>[]
def K195:Nat→List Nat
  | 0=>[0,1,4]
  | 2=>[5,6,7,8]
  | 4=>[9,10,11,12]
  | 6=>[2,3,13,14,15,16,17,18]
  | 8=>[13,19]
  | 10=>[22]
  | 12=>[2,3,20,21,23,24,25,26,27]
  | 14=>[20,21,29]
  | 16=>[2,3,28,30,31,32,33,34]
  | 18=>[2,3,28,35,36,37,38,39]
  | _=>[]
def K210:Nat→List Nat
  | 0=>[0]
  | 2=>[5]
  | 4=>[41]
  | 6=>[8]
  | 8=>[1,6,7,9,10]
  | 10=>[2,11,12,13,14,15,16]
  | 12=>[1,2,7,18]
  | 14=>[19]
  | 16=>[6,17,20,21,22,23,24,25,26,27,28,29,30,31,32,33,34,35,36,37,38,39,40]
  | 18=>[6,17,42]
  | 20=>[3,4,41,43,44,45,46,47,48,49,50]
  | _=>[]
def K211:Nat→List Nat
  | 0=>[1,4]
  | 2=>[0,3,5,6,7,8]
  | _=>[]
def K212:Nat→List Nat
  | 0=>[2]
  | 2=>[3]
  | 4=>[0,4]
  | 6=>[0,4,5,6,7]
  | _=>[]
def K213:Nat→List Nat
  | 0=>[4]
  | 2=>[6]
  | 6=>[9,10]
  | 8=>[11,12,13,14,15]
  | 10=>[0,1,5,7,8,16,17]
  | 12=>[5,16,18]
  | 14=>[0,1,7,8,9]
  | _=>[]
def K214:Nat→List Nat
  | 0=>[0,3]
  | 2=>[1,2,4,5,6]
  | _=>[]
def K215:Nat→List Nat
  | 0=>[0,1,4]
  | 2=>[5,6]
  | 4=>[2,3,7]
  | 6=>[2,3,7,8,9,10,11,12,13,14,15,16,17,18,19,20,21,22,23,24,25,26,27,28,29,30,31,32,33,34,35,36,37,38,39,40,41,42,43,44,45,46,47,48,49]
  | _=>[]
def K216:Nat→List Nat
  | 0=>[6]
  | 2=>[8,9,10,11,12,13]
  | 4=>[14,15]
  | 6=>[0,1,2,16,17]
  | 8=>[16,18,19]
  | 10=>[1,2,20,21,22,23,24,25,26]
  | 12=>[7,27,28,29,30,31]
  | 14=>[0,32]
  | _=>[]
def K220:Nat→List Nat
  | 0=>[4]
  | 2=>[0,1,5,6,7,8]
  | _=>[]
def K221:Nat→List Nat
  | 0=>[0,2]
  | 2=>[1,3,4,5]
  | _=>[]
def K222:Nat→List Nat
  | 0=>[0,2]
  | 2=>[1,3,4,5,6,7,8,9,10,11,12,13,14,15,16]
  | _=>[]
def K223:Nat→List Nat
  | 0=>[0,2]
  | 2=>[1,3,4,5,6,7,8,9,10]
  | _=>[]
def K226:Nat→List Nat
  | 0=>[0,2]
  | 4=>[3,4,5,6,7,8,9,10,11,12,13,14,15,16,17,18,19,20,21,22,23,24,25,26,27,28,29]
  | 6=>[1,30]
  | 8=>[1,30,31,32,33,34,35,36,37,38,39,40,41,42,43,44]
  | _=>[]
def K227:Nat→List Nat
  | 0=>[0,2]
  | 2=>[4,5,6,7,8,9,10,11,12]
  | 4=>[13]
  | 6=>[16]
  | 8=>[15,18]
  | 10=>[17,20]
  | 12=>[19,22]
  | 14=>[14,21,24]
  | 16=>[1,3,14,15,25,26,27,28,29,30,31,32,33,34,35]
  | 18=>[14,17,36,37,38,39,40,41,42]
  | 20=>[1,3,43]
  | 22=>[1,3,14,19,43,44,45,46,47,48,49]
  | 24=>[1,3,14,21,50,51,52,53,54,55,56,57]
  | 26=>[1,3,23,58,59,60,61,62,63,64,65,66,67,68,69]
  | 28=>[1,3,23]
  | _=>[]
def K228:Nat→List Nat
  | 0=>[2]
  | 2=>[0,3,4,5]
  | _=>[]
def K234:Nat→List Nat
  | 0=>[4]
  | 2=>[7,8]
  | 4=>[9,10]
  | 6=>[5]
  | 8=>[0,1,6,11]
  | 10=>[12]
  | 12=>[12]
  | 14=>[6,11]
  | 16=>[0,1,13]
  | 18=>[13,14,15]
  | 20=>[0,1,16]
  | 22=>[0,1,16,17,18]
  | 24=>[19]
  | 26=>[19]
  | _=>[]
def K235:Nat→List Nat
  | 0=>[4]
  | 2=>[7,8,9,10]
  | 4=>[12,13,14,15]
  | 6=>[0,1,5,6,11]
  | 8=>[5,11,17]
  | 10=>[0,1,6,16]
  | 12=>[6,16,19]
  | 14=>[0,1,18]
  | 16=>[18,21,22,23]
  | 18=>[0,1,20]
  | 20=>[0,1,20,25,26,27]
  | 22=>[24]
  | 24=>[24]
  | _=>[]
def K236:Nat→List Nat
  | 0=>[4]
  | 2=>[7,8]
  | 4=>[9,10]
  | 6=>[5]
  | 8=>[0,1,6,11]
  | 10=>[12]
  | 12=>[12]
  | 14=>[6,11]
  | 16=>[0,1,13]
  | 18=>[13,14,15]
  | 20=>[0,1,16]
  | 22=>[0,1,16,17,18]
  | 24=>[19]
  | 26=>[19]
  | _=>[]
def K237:Nat→List Nat
  | 0=>[4]
  | 2=>[7,8]
  | 4=>[9,10]
  | 6=>[5]
  | 8=>[0,1,6,11]
  | 10=>[12]
  | 12=>[12]
  | 14=>[6,11]
  | 16=>[0,1,13]
  | 18=>[13,14,15]
  | 20=>[0,1,16]
  | 22=>[0,1,16,17,18]
  | 24=>[19]
  | 26=>[19]
  | _=>[]
def K248:Nat→List Nat
  | 0=>[0,3]
  | 2=>[1,2,4,5,6,7,8]
  | _=>[]
def K249:Nat→List Nat
  | 0=>[2]
  | 2=>[0,3,4,5,6,7,8]
  | _=>[]
def K250:Nat→List Nat
  | 0=>[2]
  | 2=>[0,3,4,5,6]
  | _=>[]
def K252:Nat→List Nat
  | 0=>[2]
  | 2=>[0,3,4,5]
  | _=>[]
def K253:Nat→List Nat
  | 0=>[2]
  | 2=>[0,3,4,5]
  | _=>[]
def K254:Nat→List Nat
  | 0=>[2]
  | 2=>[0,3,4,5]
  | _=>[]
def K:Nat→Nat→List Nat
  | 6=>K6
  | 10=>K10
  | 12=>K12
  | 29=>K29
  | 30=>K30
  | 32=>K32
  | 34=>K34
  | 36=>K36
  | 38=>K38
  | 45=>K45
  | 46=>K46
  | 47=>K47
  | 48=>K48
  | 49=>K49
  | 50=>K50
  | 51=>K51
  | 52=>K52
  | 53=>K53
  | 54=>K54
  | 55=>K55
  | 57=>K57
  | 58=>K58
  | 59=>K59
  | 60=>K60
  | 61=>K61
  | 62=>K62
  | 88=>K88
  | 90=>K90
  | 91=>K91
  | 92=>K92
  | 97=>K97
  | 98=>K98
  | 112=>K112
  | 113=>K113
  | 114=>K114
  | 119=>K119
  | 120=>K120
  | 123=>K123
  | 124=>K124
  | 125=>K125
  | 127=>K127
  | 128=>K128
  | 134=>K134
  | 135=>K135
  | 136=>K136
  | 137=>K137
  | 138=>K138
  | 139=>K139
  | 140=>K140
  | 141=>K141
  | 142=>K142
  | 143=>K143
  | 144=>K144
  | 145=>K145
  | 146=>K146
  | 147=>K147
  | 155=>K155
  | 166=>K166
  | 167=>K167
  | 174=>K174
  | 175=>K175
  | 176=>K176
  | 180=>K180
  | 181=>K181
  | 182=>K182
  | 183=>K183
  | 184=>K184
  | 185=>K185
  | 186=>K186
  | 187=>K187
  | 188=>K188
  | 189=>K189
  | 192=>K192
  | 195=>K195
  | 210=>K210
  | 211=>K211
  | 212=>K212
  | 213=>K213
  | 214=>K214
  | 215=>K215
  | 216=>K216
  | 220=>K220
  | 221=>K221
  | 222=>K222
  | 223=>K223
  | 226=>K226
  | 227=>K227
  | 228=>K228
  | 234=>K234
  | 235=>K235
  | 236=>K236
  | 237=>K237
  | 248=>K248
  | 249=>K249
  | 250=>K250
  | 252=>K252
  | 253=>K253
  | 254=>K254
  | _=>fun _=>[]
def tabL:List (Option TI):=[
  none,
  some ⟨.func,1,8,false,[.nilf]⟩,
  some ⟨.int .i64,1,8,false,[.int .i64 0]⟩,
  some ⟨.int .i64,1,8,false,[.int .i64 0]⟩,
  some ⟨.bool,1,1,false,[.bool false]⟩,
  some ⟨.int .u8,1,1,false,[.int .u8 0]⟩,
  some ⟨.int .u8,1,1,false,[.int .u8 0]⟩,
  some ⟨.struct [(0,2),(1,3),(2,4),(3,6)],4,24,true,[.int .i64 0,.int .i64 0,.bool false,.int .u8 0]⟩,
  some ⟨.struct [(0,2),(1,3),(2,4),(3,6)],4,24,true,[.int .i64 0,.int .i64 0,.bool false,.int .u8 0]⟩,
  some ⟨.str,1,16,false,[.str ByteArray.empty]⟩,
  some ⟨.str,1,16,false,[.str ByteArray.empty]⟩,
  some ⟨.str,1,16,false,[.str ByteArray.empty]⟩,
  some ⟨.int .u64,1,8,false,[.int .u64 0]⟩,
  some ⟨.struct [(0,9),(1,12)],2,24,true,[.str ByteArray.empty,.int .u64 0]⟩,
  some ⟨.struct [(0,9),(1,12)],2,24,true,[.str ByteArray.empty,.int .u64 0]⟩,
  some ⟨.ptr 297,1,8,false,[.nilp]⟩,
  some ⟨.ptr 300,1,8,false,[.nilp]⟩,
  some ⟨.ptr 308,1,8,false,[.nilp]⟩,
  some ⟨.struct [(0,17)],1,8,true,[.nilp]⟩,
  some ⟨.struct [(0,17)],1,8,true,[.nilp]⟩,
  some ⟨.ifc,1,16,false,[.nili]⟩,
  some ⟨.int .i32,1,4,false,[.int .i32 0]⟩,
  some ⟨.slice 9,1,24,false,[.nils]⟩,
  some ⟨.slice 49,1,24,false,[.nils]⟩,
  some ⟨.slice 101,1,24,false,[.nils]⟩,
  some ⟨.slice 86,1,24,false,[.nils]⟩,
  some ⟨.struct [(0,22),(1,23),(2,4),(3,23),(4,24),(5,25)],6,128,true,[.nils,.nils,.bool false,.nils,.nils,.nils]⟩,
  some ⟨.struct [(0,22),(1,23),(2,4),(3,23),(4,24),(5,25)],6,128,true,[.nils,.nils,.bool false,.nils,.nils,.nils]⟩,
  some ⟨.slice 84,1,24,false,[.nils]⟩,
  some ⟨.slice 5,1,24,false,[.nils]⟩,
  some ⟨.func,1,8,false,[.nilf]⟩,
  some ⟨.func,1,8,false,[.nilf]⟩,
  some ⟨.func,1,8,false,[.nilf]⟩,
  some ⟨.slice 3,1,24,false,[.nils]⟩,
  some ⟨.int .i64,1,8,false,[.int .i64 0]⟩,
  none,
  some ⟨.func,1,8,false,[.nilf]⟩,
  some ⟨.ptr 104,1,8,false,[.nilp]⟩,
  some ⟨.func,1,8,false,[.nilf]⟩,
  some ⟨.func,1,8,false,[.nilf]⟩,
  none,
  some ⟨.func,1,8,false,[.nilf]⟩,
  some ⟨.func,1,8,false,[.nilf]⟩,
  some ⟨.func,1,8,false,[.nilf]⟩,
  some ⟨.func,1,8,false,[.nilf]⟩,
  some ⟨.flt .f64,1,8,false,[.flt .f64 0]⟩,
  some ⟨.struct [(0,3),(1,2),(2,45),(3,9)],4,40,true,[.int .i64 0,.int .i64 0,.flt .f64 0,.str ByteArray.empty]⟩,
  some ⟨.struct [(0,3),(1,2),(2,45),(3,9)],4,40,true,[.int .i64 0,.int .i64 0,.flt .f64 0,.str ByteArray.empty]⟩,
  some ⟨.struct [(0,3),(1,3),(2,3),(3,47),(7,23)],8,88,true,[.int .i64 0,.int .i64 0,.int .i64 0,.int .i64 0,.int .i64 0,.flt .f64 0,.str ByteArray.empty,.nils]⟩,
  some ⟨.struct [(0,3),(1,3),(2,3),(3,47),(7,23)],8,88,true,[.int .i64 0,.int .i64 0,.int .i64 0,.int .i64 0,.int .i64 0,.flt .f64 0,.str ByteArray.empty,.nils]⟩,
  some ⟨.func,1,8,false,[.nilf]⟩,
  some ⟨.slice 148,1,24,false,[.nils]⟩,
  some ⟨.int .u32,1,4,false,[.int .u32 0]⟩,
  some ⟨.func,1,8,false,[.nilf]⟩,
  some ⟨.slice 159,1,24,false,[.nils]⟩,
  some ⟨.func,1,8,false,[.nilf]⟩,
  some ⟨.int .u64,1,8,false,[.int .u64 0]⟩,
  some ⟨.func,1,8,false,[.nilf]⟩,
  some ⟨.func,1,8,false,[.nilf]⟩,
  some ⟨.func,1,8,false,[.nilf]⟩,
  some ⟨.func,1,8,false,[.nilf]⟩,
  some ⟨.func,1,8,false,[.nilf]⟩,
  some ⟨.func,1,8,false,[.nilf]⟩,
  some ⟨.func,1,8,false,[.nilf]⟩,
  some ⟨.slice 66,1,24,false,[.nils]⟩,
  some ⟨.struct [(0,3),(1,3),(2,23),(3,23),(4,23),(5,23),(6,24),(7,25),(8,64)],9,184,true,[.int .i64 0,.int .i64 0,.nils,.nils,.nils,.nils,.nils,.nils,.nils]⟩,
  some ⟨.struct [(0,3),(1,3),(2,23),(3,23),(4,23),(5,23),(6,24),(7,25),(8,64)],9,184,true,[.int .i64 0,.int .i64 0,.nils,.nils,.nils,.nils,.nils,.nils,.nils]⟩,
  some ⟨.func,1,8,false,[.nilf]⟩,
  some ⟨.func,1,8,false,[.nilf]⟩,
  some ⟨.func,1,8,false,[.nilf]⟩,
  some ⟨.func,1,8,false,[.nilf]⟩,
  some ⟨.func,1,8,false,[.nilf]⟩,
  some ⟨.func,1,8,false,[.nilf]⟩,
  some ⟨.func,1,8,false,[.nilf]⟩,
  some ⟨.func,1,8,false,[.nilf]⟩,
  some ⟨.func,1,8,false,[.nilf]⟩,
  some ⟨.func,1,8,false,[.nilf]⟩,
  none,
  some ⟨.func,1,8,false,[.nilf]⟩,
  some ⟨.func,1,8,false,[.nilf]⟩,
  some ⟨.struct [(0,9),(1,3)],2,24,true,[.str ByteArray.empty,.int .i64 0]⟩,
  some ⟨.struct [(0,9),(1,3)],2,24,true,[.str ByteArray.empty,.int .i64 0]⟩,
  some ⟨.slice 81,1,24,false,[.nils]⟩,
  some ⟨.struct [(0,9),(1,82)],2,40,true,[.str ByteArray.empty,.nils]⟩,
  some ⟨.struct [(0,9),(1,82)],2,40,true,[.str ByteArray.empty,.nils]⟩,
  some ⟨.struct [(0,3),(1,4)],2,16,true,[.int .i64 0,.bool false]⟩,
  some ⟨.struct [(0,3),(1,4)],2,16,true,[.int .i64 0,.bool false]⟩,
  some ⟨.func,1,8,false,[.nilf]⟩,
  some ⟨.func,1,8,false,[.nilf]⟩,
  none,
  some ⟨.func,1,8,false,[.nilf]⟩,
  some ⟨.func,1,8,false,[.nilf]⟩,
  some ⟨.func,1,8,false,[.nilf]⟩,
  some ⟨.func,1,8,false,[.nilf]⟩,
  none,
  some ⟨.func,1,8,false,[.nilf]⟩,
  some ⟨.func,1,8,false,[.nilf]⟩,
  some ⟨.func,1,8,false,[.nilf]⟩,
  some ⟨.func,1,8,false,[.nilf]⟩,
  some ⟨.func,1,8,false,[.nilf]⟩,
  some ⟨.struct [(0,3),(1,49)],9,96,true,[.int .i64 0,.int .i64 0,.int .i64 0,.int .i64 0,.int .i64 0,.int .i64 0,.flt .f64 0,.str ByteArray.empty,.nils]⟩,
  some ⟨.struct [(0,3),(1,49)],9,96,true,[.int .i64 0,.int .i64 0,.int .i64 0,.int .i64 0,.int .i64 0,.int .i64 0,.flt .f64 0,.str ByteArray.empty,.nils]⟩,
  some ⟨.func,1,8,false,[.nilf]⟩,
  some ⟨.struct [(0,4),(1,29),(2,34)],3,40,true,[.bool false,.nils,.int .i64 0]⟩,
  some ⟨.struct [(0,4),(1,29),(2,34)],3,40,true,[.bool false,.nils,.int .i64 0]⟩,
  some ⟨.func,1,8,false,[.nilf]⟩,
  some ⟨.func,1,8,false,[.nilf]⟩,
  some ⟨.func,1,8,false,[.nilf]⟩,
  some ⟨.func,1,8,false,[.nilf]⟩,
  some ⟨.func,1,8,false,[.nilf]⟩,
  some ⟨.func,1,8,false,[.nilf]⟩,
  some ⟨.func,1,8,false,[.nilf]⟩,
  some ⟨.func,1,8,false,[.nilf]⟩,
  some ⟨.func,1,8,false,[.nilf]⟩,
  some ⟨.func,1,8,false,[.nilf]⟩,
  none,
  some ⟨.func,1,8,false,[.nilf]⟩,
  some ⟨.func,1,8,false,[.nilf]⟩,
  none,
  some ⟨.func,1,8,false,[.nilf]⟩,
  some ⟨.func,1,8,false,[.nilf]⟩,
  some ⟨.func,1,8,false,[.nilf]⟩,
  some ⟨.func,1,8,false,[.nilf]⟩,
  none,
  some ⟨.func,1,8,false,[.nilf]⟩,
  none,
  some ⟨.func,1,8,false,[.nilf]⟩,
  none,
  some ⟨.func,1,8,false,[.nilf]⟩,
  some ⟨.func,1,8,false,[.nilf]⟩,
  some ⟨.func,1,8,false,[.nilf]⟩,
  none,
  some ⟨.func,1,8,false,[.nilf]⟩,
  some ⟨.func,1,8,false,[.nilf]⟩,
  some ⟨.func,1,8,false,[.nilf]⟩,
  some ⟨.func,1,8,false,[.nilf]⟩,
  some ⟨.func,1,8,false,[.nilf]⟩,
  some ⟨.func,1,8,false,[.nilf]⟩,
  some ⟨.func,1,8,false,[.nilf]⟩,
  some ⟨.func,1,8,false,[.nilf]⟩,
  some ⟨.func,1,8,false,[.nilf]⟩,
  some ⟨.func,1,8,false,[.nilf]⟩,
  some ⟨.func,1,8,false,[.nilf]⟩,
  some ⟨.func,1,8,false,[.nilf]⟩,
  some ⟨.func,1,8,false,[.nilf]⟩,
  some ⟨.func,1,8,false,[.nilf]⟩,
  some ⟨.slice 212,1,24,false,[.nils]⟩,
  some ⟨.struct [(0,3),(1,146)],2,32,true,[.int .i64 0,.nils]⟩,
  some ⟨.struct [(0,3),(1,146)],2,32,true,[.int .i64 0,.nils]⟩,
  some ⟨.func,1,8,false,[.nilf]⟩,
  some ⟨.slice 247,1,24,false,[.nils]⟩,
  some ⟨.slice 47,1,24,false,[.nils]⟩,
  some ⟨.array 64 5,64,64,true,[.int .u8 0,.int .u8 0,.int .u8 0,.int .u8 0,.int .u8 0,.int .u8 0,.int .u8 0,.int .u8 0,.int .u8 0,.int .u8 0,.int .u8 0,.int .u8 0,.int .u8 0,.int .u8 0,.int .u8 0,.int .u8 0,.int .u8 0,.int .u8 0,.int .u8 0,.int .u8 0,.int .u8 0,.int .u8 0,.int .u8 0,.int .u8 0,.int .u8 0,.int .u8 0,.int .u8 0,.int .u8 0,.int .u8 0,.int .u8 0,.int .u8 0,.int .u8 0,.int .u8 0,.int .u8 0,.int .u8 0,.int .u8 0,.int .u8 0,.int .u8 0,.int .u8 0,.int .u8 0,.int .u8 0,.int .u8 0,.int .u8 0,.int .u8 0,.int .u8 0,.int .u8 0,.int .u8 0,.int .u8 0,.int .u8 0,.int .u8 0,.int .u8 0,.int .u8 0,.int .u8 0,.int .u8 0,.int .u8 0,.int .u8 0,.int .u8 0,.int .u8 0,.int .u8 0,.int .u8 0,.int .u8 0,.int .u8 0,.int .u8 0,.int .u8 0]⟩,
  some ⟨.struct [(0,152)],64,64,true,[.int .u8 0,.int .u8 0,.int .u8 0,.int .u8 0,.int .u8 0,.int .u8 0,.int .u8 0,.int .u8 0,.int .u8 0,.int .u8 0,.int .u8 0,.int .u8 0,.int .u8 0,.int .u8 0,.int .u8 0,.int .u8 0,.int .u8 0,.int .u8 0,.int .u8 0,.int .u8 0,.int .u8 0,.int .u8 0,.int .u8 0,.int .u8 0,.int .u8 0,.int .u8 0,.int .u8 0,.int .u8 0,.int .u8 0,.int .u8 0,.int .u8 0,.int .u8 0,.int .u8 0,.int .u8 0,.int .u8 0,.int .u8 0,.int .u8 0,.int .u8 0,.int .u8 0,.int .u8 0,.int .u8 0,.int .u8 0,.int .u8 0,.int .u8 0,.int .u8 0,.int .u8 0,.int .u8 0,.int .u8 0,.int .u8 0,.int .u8 0,.int .u8 0,.int .u8 0,.int .u8 0,.int .u8 0,.int .u8 0,.int .u8 0,.int .u8 0,.int .u8 0,.int .u8 0,.int .u8 0,.int .u8 0,.int .u8 0,.int .u8 0,.int .u8 0]⟩,
  some ⟨.struct [(0,152)],64,64,true,[.int .u8 0,.int .u8 0,.int .u8 0,.int .u8 0,.int .u8 0,.int .u8 0,.int .u8 0,.int .u8 0,.int .u8 0,.int .u8 0,.int .u8 0,.int .u8 0,.int .u8 0,.int .u8 0,.int .u8 0,.int .u8 0,.int .u8 0,.int .u8 0,.int .u8 0,.int .u8 0,.int .u8 0,.int .u8 0,.int .u8 0,.int .u8 0,.int .u8 0,.int .u8 0,.int .u8 0,.int .u8 0,.int .u8 0,.int .u8 0,.int .u8 0,.int .u8 0,.int .u8 0,.int .u8 0,.int .u8 0,.int .u8 0,.int .u8 0,.int .u8 0,.int .u8 0,.int .u8 0,.int .u8 0,.int .u8 0,.int .u8 0,.int .u8 0,.int .u8 0,.int .u8 0,.int .u8 0,.int .u8 0,.int .u8 0,.int .u8 0,.int .u8 0,.int .u8 0,.int .u8 0,.int .u8 0,.int .u8 0,.int .u8 0,.int .u8 0,.int .u8 0,.int .u8 0,.int .u8 0,.int .u8 0,.int .u8 0,.int .u8 0,.int .u8 0]⟩,
  some ⟨.struct [(0,3),(1,3),(2,3),(3,150),(4,151),(5,154)],69,136,true,[.int .i64 0,.int .i64 0,.int .i64 0,.nils,.nils,.int .u8 0,.int .u8 0,.int .u8 0,.int .u8 0,.int .u8 0,.int .u8 0,.int .u8 0,.int .u8 0,.int .u8 0,.int .u8 0,.int .u8 0,.int .u8 0,.int .u8 0,.int .u8 0,.int .u8 0,.int .u8 0,.int .u8 0,.int .u8 0,.int .u8 0,.int .u8 0,.int .u8 0,.int .u8 0,.int .u8 0,.int .u8 0,.int .u8 0,.int .u8 0,.int .u8 0,.int .u8 0,.int .u8 0,.int .u8 0,.int .u8 0,.int .u8 0,.int .u8 0,.int .u8 0,.int .u8 0,.int .u8 0,.int .u8 0,.int .u8 0,.int .u8 0,.int .u8 0,.int .u8 0,.int .u8 0,.int .u8 0,.int .u8 0,.int .u8 0,.int .u8 0,.int .u8 0,.int .u8 0,.int .u8 0,.int .u8 0,.int .u8 0,.int .u8 0,.int .u8 0,.int .u8 0,.int .u8 0,.int .u8 0,.int .u8 0,.int .u8 0,.int .u8 0,.int .u8 0,.int .u8 0,.int .u8 0,.int .u8 0,.int .u8 0]⟩,
  some ⟨.struct [(0,3),(1,3),(2,3),(3,150),(4,151),(5,154)],69,136,true,[.int .i64 0,.int .i64 0,.int .i64 0,.nils,.nils,.int .u8 0,.int .u8 0,.int .u8 0,.int .u8 0,.int .u8 0,.int .u8 0,.int .u8 0,.int .u8 0,.int .u8 0,.int .u8 0,.int .u8 0,.int .u8 0,.int .u8 0,.int .u8 0,.int .u8 0,.int .u8 0,.int .u8 0,.int .u8 0,.int .u8 0,.int .u8 0,.int .u8 0,.int .u8 0,.int .u8 0,.int .u8 0,.int .u8 0,.int .u8 0,.int .u8 0,.int .u8 0,.int .u8 0,.int .u8 0,.int .u8 0,.int .u8 0,.int .u8 0,.int .u8 0,.int .u8 0,.int .u8 0,.int .u8 0,.int .u8 0,.int .u8 0,.int .u8 0,.int .u8 0,.int .u8 0,.int .u8 0,.int .u8 0,.int .u8 0,.int .u8 0,.int .u8 0,.int .u8 0,.int .u8 0,.int .u8 0,.int .u8 0,.int .u8 0,.int .u8 0,.int .u8 0,.int .u8 0,.int .u8 0,.int .u8 0,.int .u8 0,.int .u8 0,.int .u8 0,.int .u8 0,.int .u8 0,.int .u8 0,.int .u8 0]⟩,
  some ⟨.slice 156,1,24,false,[.nils]⟩,
  some ⟨.struct [(0,3),(1,157)],2,32,true,[.int .i64 0,.nils]⟩,
  some ⟨.struct [(0,3),(1,157)],2,32,true,[.int .i64 0,.nils]⟩,
  some ⟨.func,1,8,false,[.nilf]⟩,
  some ⟨.func,1,8,false,[.nilf]⟩,
  some ⟨.func,1,8,false,[.nilf]⟩,
  some ⟨.func,1,8,false,[.nilf]⟩,
  some ⟨.int .u64,1,8,false,[.int .u64 0]⟩,
  some ⟨.func,1,8,false,[.nilf]⟩,
  some ⟨.func,1,8,false,[.nilf]⟩,
  some ⟨.func,1,8,false,[.nilf]⟩,
  some ⟨.func,1,8,false,[.nilf]⟩,
  some ⟨.func,1,8,false,[.nilf]⟩,
  some ⟨.func,1,8,false,[.nilf]⟩,
  some ⟨.func,1,8,false,[.nilf]⟩,
  none,
  some ⟨.func,1,8,false,[.nilf]⟩,
  some ⟨.func,1,8,false,[.nilf]⟩,
  some ⟨.func,1,8,false,[.nilf]⟩,
  some ⟨.func,1,8,false,[.nilf]⟩,
  some ⟨.func,1,8,false,[.nilf]⟩,
  some ⟨.func,1,8,false,[.nilf]⟩,
  some ⟨.func,1,8,false,[.nilf]⟩,
  some ⟨.func,1,8,false,[.nilf]⟩,
  some ⟨.func,1,8,false,[.nilf]⟩,
  some ⟨.slice 23,1,24,false,[.nils]⟩,
  some ⟨.func,1,8,false,[.nilf]⟩,
  some ⟨.func,1,8,false,[.nilf]⟩,
  some ⟨.func,1,8,false,[.nilf]⟩,
  some ⟨.func,1,8,false,[.nilf]⟩,
  some ⟨.func,1,8,false,[.nilf]⟩,
  some ⟨.func,1,8,false,[.nilf]⟩,
  some ⟨.func,1,8,false,[.nilf]⟩,
  some ⟨.func,1,8,false,[.nilf]⟩,
  some ⟨.func,1,8,false,[.nilf]⟩,
  some ⟨.func,1,8,false,[.nilf]⟩,
  some ⟨.func,1,8,false,[.nilf]⟩,
  some ⟨.func,1,8,false,[.nilf]⟩,
  some ⟨.func,1,8,false,[.nilf]⟩,
  some ⟨.func,1,8,false,[.nilf]⟩,
  some ⟨.func,1,8,false,[.nilf]⟩,
  some ⟨.ptr 200,1,8,false,[.nilp]⟩,
  some ⟨.struct [(0,37),(1,3)],2,16,true,[.nilp,.int .i64 0]⟩,
  some ⟨.struct [(0,37),(1,3)],2,16,true,[.nilp,.int .i64 0]⟩,
  none,
  none,
  some ⟨.func,1,8,false,[.nilf]⟩,
  none,
  none,
  none,
  some ⟨.func,1,8,false,[.nilf]⟩,
  some ⟨.func,1,8,false,[.nilf]⟩,
  some ⟨.func,1,8,false,[.nilf]⟩,
  some ⟨.slice 246,1,24,false,[.nils]⟩,
  some ⟨.struct [(0,3),(1,3),(2,3),(3,210),(4,151),(5,152)],69,136,true,[.int .i64 0,.int .i64 0,.int .i64 0,.nils,.nils,.int .u8 0,.int .u8 0,.int .u8 0,.int .u8 0,.int .u8 0,.int .u8 0,.int .u8 0,.int .u8 0,.int .u8 0,.int .u8 0,.int .u8 0,.int .u8 0,.int .u8 0,.int .u8 0,.int .u8 0,.int .u8 0,.int .u8 0,.int .u8 0,.int .u8 0,.int .u8 0,.int .u8 0,.int .u8 0,.int .u8 0,.int .u8 0,.int .u8 0,.int .u8 0,.int .u8 0,.int .u8 0,.int .u8 0,.int .u8 0,.int .u8 0,.int .u8 0,.int .u8 0,.int .u8 0,.int .u8 0,.int .u8 0,.int .u8 0,.int .u8 0,.int .u8 0,.int .u8 0,.int .u8 0,.int .u8 0,.int .u8 0,.int .u8 0,.int .u8 0,.int .u8 0,.int .u8 0,.int .u8 0,.int .u8 0,.int .u8 0,.int .u8 0,.int .u8 0,.int .u8 0,.int .u8 0,.int .u8 0,.int .u8 0,.int .u8 0,.int .u8 0,.int .u8 0,.int .u8 0,.int .u8 0,.int .u8 0,.int .u8 0,.int .u8 0]⟩,
  some ⟨.struct [(0,3),(1,3),(2,3),(3,210),(4,151),(5,152)],69,136,true,[.int .i64 0,.int .i64 0,.int .i64 0,.nils,.nils,.int .u8 0,.int .u8 0,.int .u8 0,.int .u8 0,.int .u8 0,.int .u8 0,.int .u8 0,.int .u8 0,.int .u8 0,.int .u8 0,.int .u8 0,.int .u8 0,.int .u8 0,.int .u8 0,.int .u8 0,.int .u8 0,.int .u8 0,.int .u8 0,.int .u8 0,.int .u8 0,.int .u8 0,.int .u8 0,.int .u8 0,.int .u8 0,.int .u8 0,.int .u8 0,.int .u8 0,.int .u8 0,.int .u8 0,.int .u8 0,.int .u8 0,.int .u8 0,.int .u8 0,.int .u8 0,.int .u8 0,.int .u8 0,.int .u8 0,.int .u8 0,.int .u8 0,.int .u8 0,.int .u8 0,.int .u8 0,.int .u8 0,.int .u8 0,.int .u8 0,.int .u8 0,.int .u8 0,.int .u8 0,.int .u8 0,.int .u8 0,.int .u8 0,.int .u8 0,.int .u8 0,.int .u8 0,.int .u8 0,.int .u8 0,.int .u8 0,.int .u8 0,.int .u8 0,.int .u8 0,.int .u8 0,.int .u8 0,.int .u8 0,.int .u8 0]⟩,
  some ⟨.func,1,8,false,[.nilf]⟩,
  none,
  some ⟨.func,1,8,false,[.nilf]⟩,
  some ⟨.func,1,8,false,[.nilf]⟩,
  some ⟨.func,1,8,false,[.nilf]⟩,
  none,
  some ⟨.func,1,8,false,[.nilf]⟩,
  none,
  some ⟨.func,1,8,false,[.nilf]⟩,
  some ⟨.func,1,8,false,[.nilf]⟩,
  some ⟨.slice 4,1,24,false,[.nils]⟩,
  some ⟨.func,1,8,false,[.nilf]⟩,
  some ⟨.func,1,8,false,[.nilf]⟩,
  some ⟨.ptr 23,1,8,false,[.nilp]⟩,
  some ⟨.slice 226,1,24,false,[.nils]⟩,
  some ⟨.func,1,8,false,[.nilf]⟩,
  some ⟨.func,1,8,false,[.nilf]⟩,
  some ⟨.ptr 66,1,8,false,[.nilp]⟩,
  some ⟨.func,1,8,false,[.nilf]⟩,
  some ⟨.func,1,8,false,[.nilf]⟩,
  some ⟨.func,1,8,false,[.nilf]⟩,
  none,
  some ⟨.func,1,8,false,[.nilf]⟩,
  some ⟨.func,1,8,false,[.nilf]⟩,
  some ⟨.func,1,8,false,[.nilf]⟩,
  some ⟨.func,1,8,false,[.nilf]⟩,
  some ⟨.func,1,8,false,[.nilf]⟩,
  none,
  some ⟨.func,1,8,false,[.nilf]⟩,
  none,
  some ⟨.func,1,8,false,[.nilf]⟩,
  some ⟨.func,1,8,false,[.nilf]⟩,
  some ⟨.struct [(0,47),(4,47),(8,3),(9,3)],10,96,true,[.int .i64 0,.int .i64 0,.flt .f64 0,.str ByteArray.empty,.int .i64 0,.int .i64 0,.flt .f64 0,.str ByteArray.empty,.int .i64 0,.int .i64 0]⟩,
  some ⟨.struct [(0,47),(4,47),(8,3),(9,3)],10,96,true,[.int .i64 0,.int .i64 0,.flt .f64 0,.str ByteArray.empty,.int .i64 0,.int .i64 0,.flt .f64 0,.str ByteArray.empty,.int .i64 0,.int .i64 0]⟩,
  some ⟨.struct [(0,47),(4,47),(8,3),(9,3)],10,96,true,[.int .i64 0,.int .i64 0,.flt .f64 0,.str ByteArray.empty,.int .i64 0,.int .i64 0,.flt .f64 0,.str ByteArray.empty,.int .i64 0,.int .i64 0]⟩,
  some ⟨.func,1,8,false,[.nilf]⟩,
  some ⟨.func,1,8,false,[.nilf]⟩,
  some ⟨.func,1,8,false,[.nilf]⟩,
  some ⟨.func,1,8,false,[.nilf]⟩,
  some ⟨.func,1,8,false,[.nilf]⟩,
  some ⟨.func,1,8,false,[.nilf]⟩,
  some ⟨.func,1,8,false,[.nilf]⟩,
  some ⟨.func,1,8,false,[.nilf]⟩,
  none,
  some ⟨.func,1,8,false,[.nilf]⟩,
  some ⟨.func,1,8,false,[.nilf]⟩,
  some ⟨.func,1,8,false,[.nilf]⟩,
  some ⟨.func,1,8,false,[.nilf]⟩,
  some ⟨.func,1,8,false,[.nilf]⟩,
  some ⟨.func,1,8,false,[.nilf]⟩,
  some ⟨.func,1,8,false,[.nilf]⟩,
  some ⟨.func,1,8,false,[.nilf]⟩,
  some ⟨.func,1,8,false,[.nilf]⟩,
  some ⟨.func,1,8,false,[.nilf]⟩,
  some ⟨.func,1,8,false,[.nilf]⟩,
  some ⟨.func,1,8,false,[.nilf]⟩,
  some ⟨.func,1,8,false,[.nilf]⟩,
  some ⟨.func,1,8,false,[.nilf]⟩,
  some ⟨.func,1,8,false,[.nilf]⟩,
  some ⟨.ifc,1,16,false,[.nili]⟩,
  some ⟨.ifc,1,16,false,[.nili]⟩,
  some ⟨.func,1,8,false,[.nilf]⟩,
  some ⟨.func,1,8,false,[.nilf]⟩,
  some ⟨.array 2 3,2,16,true,[.int .i64 0,.int .i64 0]⟩,
  some ⟨.func,1,8,false,[.nilf]⟩,
  some ⟨.func,1,8,false,[.nilf]⟩,
  some ⟨.func,1,8,false,[.nilf]⟩,
  some ⟨.func,1,8,false,[.nilf]⟩,
  some ⟨.func,1,8,false,[.nilf]⟩,
  some ⟨.array 14 3,14,112,true,[.int .i64 0,.int .i64 0,.int .i64 0,.int .i64 0,.int .i64 0,.int .i64 0,.int .i64 0,.int .i64 0,.int .i64 0,.int .i64 0,.int .i64 0,.int .i64 0,.int .i64 0,.int .i64 0]⟩,
  some ⟨.func,1,8,false,[.nilf]⟩,
  some ⟨.func,1,8,false,[.nilf]⟩,
  some ⟨.func,1,8,false,[.nilf]⟩,
  some ⟨.func,1,8,false,[.nilf]⟩,
  some ⟨.func,1,8,false,[.nilf]⟩,
  none,
  some ⟨.func,1,8,false,[.nilf]⟩,
  some ⟨.func,1,8,false,[.nilf]⟩,
  some ⟨.func,1,8,false,[.nilf]⟩,
  some ⟨.func,1,8,false,[.nilf]⟩,
  some ⟨.func,1,8,false,[.nilf]⟩,
  some ⟨.ptr 310,1,8,false,[.nilp]⟩,
  some ⟨.func,1,8,false,[.nilf]⟩,
  some ⟨.struct [(0,17),(1,17),(2,17),(3,9)],4,40,true,[.nilp,.nilp,.nilp,.str ByteArray.empty]⟩,
  some ⟨.struct [(0,17),(1,17),(2,17),(3,9)],4,40,true,[.nilp,.nilp,.nilp,.str ByteArray.empty]⟩,
  some ⟨.array 0 16,0,0,true,[]⟩,
  some ⟨.struct [(0,298)],0,0,true,[]⟩,
  some ⟨.struct [(0,298)],0,0,true,[]⟩,
  some ⟨.int .u8,1,1,false,[.int .u8 0]⟩,
  some ⟨.int .u8,1,1,false,[.int .u8 0]⟩,
  some ⟨.func,1,8,false,[.nilf]⟩,
  some ⟨.ptr 5,1,8,false,[.nilp]⟩,
  some ⟨.int .i32,1,4,false,[.int .i32 0]⟩,
  some ⟨.int .i32,1,4,false,[.int .i32 0]⟩,
  some ⟨.struct [(0,12),(1,12),(2,52),(3,301),(4,5),(5,5),(6,302),(7,303),(8,304),(9,305),(10,306)],11,48,true,[.int .u64 0,.int .u64 0,.int .u32 0,.int .u8 0,.int .u8 0,.int .u8 0,.int .u8 0,.nilf,.nilp,.int .i32 0,.int .i32 0]⟩,
  some ⟨.struct [(0,12),(1,12),(2,52),(3,301),(4,5),(5,5),(6,302),(7,303),(8,304),(9,305),(10,306)],11,48,true,[.int .u64 0,.int .u64 0,.int .u32 0,.int .u8 0,.int .u8 0,.int .u8 0,.int .u8 0,.nilf,.nilp,.int .i32 0,.int .i32 0]⟩,
  some ⟨.struct [(0,9)],1,16,true,[.str ByteArray.empty]⟩,
  some ⟨.struct [(0,9)],1,16,true,[.str ByteArray.empty]⟩,
  some ⟨.scalar,1,8,false,[.nilp]⟩]
def D:Nat→Option (Nat × IntKind)
  | 144=>some (34,.i64)
  | _=>none
theorem gd144:agZ Go.Proofs.Tryz.prog (alx tabL) 144 34 .i64:=by
  refine ⟨f144,f183,183,20,4,234,1,2,"expr.go:54","expr.go:55","expr.go:63","expr.go:64","expr.go:56","expr.go:57","expr.go:58","expr.go:59",#[⟨0,.data⟩,⟨0,.chain⟩,⟨0,.phase⟩],#[⟨0,.data⟩],#[⟨0,.data⟩],#[⟨1,.data⟩],#[⟨2,.data⟩],#[⟨2,.data⟩,⟨5,.gcOnly .lateStores⟩],#[⟨3,.data⟩,⟨0,.phase⟩,⟨1,.phase⟩,⟨2,.phase⟩,⟨3,.phase⟩,⟨4,.textOnly .lateStores⟩],#[⟨4,.data⟩,⟨5,.chain⟩,⟨0,.phase⟩,⟨1,.phase⟩,⟨2,.phase⟩,⟨3,.phase⟩,⟨4,.phase⟩,⟨5,.phase⟩],#[],#[⟨0,.data⟩,⟨0,.phase⟩],⟨⟨_,_,rfl⟩,⟨_,rfl,fun i h=>nomatch h⟩,⟨_,rfl⟩⟩,by kernel_rfl,by kernel_rfl,by kernel_rfl,by kernel_rfl,by kernel_rfl,by kernel_rfl,by kernel_rfl,by kernel_rfl,by decide⟩
noncomputable def G:Cfg:=cfgT Go.Proofs.Tryz.prog (alx tabL) M K D
theorem D_ok (f te:Nat) (k:IntKind) (h:D f=some (te,k)):agZ Go.Proofs.Tryz.prog (alx tabL) f te k:=by
  unfold D at h
  split at h
  · simp only [Option.some.injEq,Prod.mk.injEq] at h
    obtain ⟨rfl,rfl⟩:=h
    exact gd144
  · cases h
theorem G_ok:GOk G:=aph _ (apZ (by kernel_rfl)) M K D D_ok
theorem GP:G.P=Go.Proofs.Tryz.prog:=rfl
theorem t1:G.T 1=some ⟨.func,1,8,false,[.nilf]⟩:=rfl
theorem t2:G.T 2=some ⟨.int .i64,1,8,false,[.int .i64 0]⟩:=rfl
theorem t3:G.T 3=some ⟨.int .i64,1,8,false,[.int .i64 0]⟩:=rfl
theorem t9:G.T 9=some ⟨.str,1,16,false,[.str ByteArray.empty]⟩:=rfl
theorem t22:G.T 22=some ⟨.slice 9,1,24,false,[.nils]⟩:=rfl
theorem t23:G.T 23=some ⟨.slice 49,1,24,false,[.nils]⟩:=rfl
theorem t24:G.T 24=some ⟨.slice 101,1,24,false,[.nils]⟩:=rfl
theorem t25:G.T 25=some ⟨.slice 86,1,24,false,[.nils]⟩:=rfl
theorem t28:G.T 28=some ⟨.slice 84,1,24,false,[.nils]⟩:=rfl
theorem t33:G.T 33=some ⟨.slice 3,1,24,false,[.nils]⟩:=rfl
theorem t49:G.T 49=some ⟨.struct [(0,3),(1,3),(2,3),(3,47),(7,23)],8,88,true,[.int .i64 0,.int .i64 0,.int .i64 0,.int .i64 0,.int .i64 0,.flt .f64 0,.str ByteArray.empty,.nils]⟩:=rfl
theorem t64:G.T 64=some ⟨.slice 66,1,24,false,[.nils]⟩:=rfl
theorem t66:G.T 66=some ⟨.struct [(0,3),(1,3),(2,23),(3,23),(4,23),(5,23),(6,24),(7,25),(8,64)],9,184,true,[.int .i64 0,.int .i64 0,.nils,.nils,.nils,.nils,.nils,.nils,.nils]⟩:=rfl
theorem t81:G.T 81=some ⟨.struct [(0,9),(1,3)],2,24,true,[.str ByteArray.empty,.int .i64 0]⟩:=rfl
theorem t82:G.T 82=some ⟨.slice 81,1,24,false,[.nils]⟩:=rfl
theorem t84:G.T 84=some ⟨.struct [(0,9),(1,82)],2,40,true,[.str ByteArray.empty,.nils]⟩:=rfl
theorem t86:G.T 86=some ⟨.struct [(0,3),(1,4)],2,16,true,[.int .i64 0,.bool false]⟩:=rfl
theorem t101:G.T 101=some ⟨.struct [(0,3),(1,49)],9,96,true,[.int .i64 0,.int .i64 0,.int .i64 0,.int .i64 0,.int .i64 0,.int .i64 0,.flt .f64 0,.str ByteArray.empty,.nils]⟩:=rfl
theorem t182:G.T 182=some ⟨.slice 23,1,24,false,[.nils]⟩:=rfl
end Go.Ab.S1
