/- WorldNames: what can be reached. No condition. -/
import Derived.Test.YtnjljebicihpaaaGreatDoorRows
import Derived.ProofKit
import Derived.OpenShut
import Derived.JoinedOf
import Derived.KernelRfl
import Derived.Test.YtnjljebicihpaaaGreatDoorPCLa
import Derived.Test.YtnjljebicihpaaaGreatDoorPCLb
import Derived.Test.YtnjljebicihpaaaGreatDoorPCLc
import Derived.Test.YtnjljebicihpaaaGreatDoorPCLd
import Derived.Test.YtnjljebicihpaaaGreatDoorPCLe
import Derived.Test.YtnjljebicihpaaaGreatDoorPCLf
import Derived.Test.YtnjljebicihpaaaGreatDoorPCLg
import Derived.Test.YtnjljebicihpaaaGreatDoorPCLh
import Derived.Test.YtnjljebicihpaaaGreatDoorPCLi
import Derived.Test.YtnjljebicihpaaaGreatDoorPCLj
namespace Go.Proofs.YtnjljebicihpaaaGreatDoor.worldNames
def tbl : List (List Nat) := tb0 ++ (tb1 ++ (tb2 ++ (tb3 ++ (tb4 ++ (tb5 ++ (tb6 ++ (tb7 ++ (tb8 ++ (tb9 ++ [])))))))))
theorem take_drop_step {α β : Type} (g : α → β) (l : List α) (a n : Nat) {x y : List β} (hx : ((l.drop a).take n).map g = x) (hy : (l.drop (a + n)).map g = y) : (l.drop a).map g = x ++ y := by
  rw [← hx, ← hy, ← List.map_append, ← List.drop_drop, List.take_append_drop]
theorem tbl_eq : Tryz.prog.funcs.toList.map Tryz.prog.leadsTo = tbl := by
  have h0 : (Tryz.prog.funcs.toList.drop 700).map Tryz.prog.leadsTo = [] := by kernel_rfl
  have h1 := take_drop_step Tryz.prog.leadsTo Tryz.prog.funcs.toList 630 70 tp9 h0
  have h2 := take_drop_step Tryz.prog.leadsTo Tryz.prog.funcs.toList 560 70 tp8 h1
  have h3 := take_drop_step Tryz.prog.leadsTo Tryz.prog.funcs.toList 490 70 tp7 h2
  have h4 := take_drop_step Tryz.prog.leadsTo Tryz.prog.funcs.toList 420 70 tp6 h3
  have h5 := take_drop_step Tryz.prog.leadsTo Tryz.prog.funcs.toList 350 70 tp5 h4
  have h6 := take_drop_step Tryz.prog.leadsTo Tryz.prog.funcs.toList 280 70 tp4 h5
  have h7 := take_drop_step Tryz.prog.leadsTo Tryz.prog.funcs.toList 210 70 tp3 h6
  have h8 := take_drop_step Tryz.prog.leadsTo Tryz.prog.funcs.toList 140 70 tp2 h7
  have h9 := take_drop_step Tryz.prog.leadsTo Tryz.prog.funcs.toList 70 70 tp1 h8
  have h10 := take_drop_step Tryz.prog.leadsTo Tryz.prog.funcs.toList 0 70 tp0 h9
  rwa [List.drop_zero] at h10
def cl3 : List Nat := [3,4,11,33,12,34,58,102,98,59,103,161,162,167,104,163,105,141,210,268,164,106,165,60,35,61,107,166,108,168,237,266,267,169,109,100,110,62,36,63,111,112,114,113,170,115,116,171,238,183,240,241,300,350,369,370,421,422,492,424,423,493,425,351,407,318,301,352,353,408,354,355,356,364,365,409,242,185,172,239,65,119,66,64,117,173,118,174,67,68,120,121,175,122,176,177,178,179,181,180,69,70,123,124,182,125,37,71,72,126,73,127,184,160,74,128,129,186,243,302,187,188,244,303,304,357,305,191,189,190,245,306,307,308,192,246,309,310,194,249,312,313,366,415,416,491,554,311,359,358,360,361,362,410,487,412,489,413,490,411,488,553,414,363,193,247,248,195,130,196,197,250,314,131,198,251,315,252,199,253,254,316,317,367,417,418,368,419,371,426,420,261,255,256,319,257,200,201,258,202,260,259,75,38,39,76,13,14,40,5,6,15,41,42,77,132,133,203,262,320,321,372,373,263,323,322,204,264,205,265,206,78,134,135,136,207,79,43,80,93,16,44,81,138,137,208,17,18,45,82,83,139,46,84,27,140,209,85,86,142,152,87,143,211,212,270,269,213,271,214,144,145,89,147,220,148,149,221,150,223,284,285,222,276,277,327,278,328,329,279,330,331,374,280,281,282,283,151,88,146,215,272,273,324,217,216,218,219,274,275,325,326,47,90,91,153,154,224,225,286,287,226,227,92,155,19,48,20,49,21,51,94,156,228,288,229,289,332,95,157,230,291,334,377,378,431,495,556,561,601,562,602,588,621,620,563,603,542,596,604,449,471,541,595,557,437,442,430,494,555,379,432,496,433,497,434,295,346,435,436,347,298,404,472,473,405,475,476,477,543,545,546,597,547,560,600,548,598,627,628,629,642,630,643,654,655,659,644,640,650,658,660,651,652,653,401,467,468,544,474,438,498,499,558,465,463,538,470,539,593,594,624,625,626,540,559,439,403,469,296,297,348,406,478,484,552,479,549,480,481,550,551,599,482,483,485,486,457,380,440,501,502,564,532,589,32,448,511,512,513,531,587,619,641,514,519,577,610,612,613,614,638,615,617,618,639,649,500,381,441,504,505,566,565,605,631,503,382,443,506,567,444,508,509,569,570,568,606,632,507,445,383,446,397,447,510,571,607,633,634,645,646,635,636,647,648,656,657,342,400,384,450,515,572,525,573,522,580,616,581,385,386,387,451,516,574,520,578,611,521,523,582,526,583,579,454,388,389,452,453,517,518,575,576,609,608,637,390,455,524,391,456,528,529,584,29,527,392,458,530,585,586,393,394,459,460,533,591,590,534,592,623,622,535,395,461,536,537,335,396,336,337,290,333,375,427,428,429,376,231,293,343,292,338,398,462,464,399,466,339,341,340,232,294,344,402,345,233,158,234,235,159,236,299,349,96,50,22,52,97,23,53,24,54,99,25,55,26,56,101,7,28,8,30,57,9,10,31]
theorem fuel_eq {P : Program} {T : List (List Nat)} (hT : P.funcs.toList.map P.leadsTo = T) : (P.funcs.toList.map fun g => (P.leadsTo g).length + 1).sum = (T.map fun x => x.length + 1).sum := by
  rw [← hT, List.map_map]; rfl
theorem clos : Tryz.prog.closure 3 = cl3 := by
  unfold Program.closure
  rw [fuel_eq tbl_eq, clo_eq tbl_eq _ _ _ 0 (by intro x; simp)]
  kernel_rfl
end Go.Proofs.YtnjljebicihpaaaGreatDoor.worldNames
