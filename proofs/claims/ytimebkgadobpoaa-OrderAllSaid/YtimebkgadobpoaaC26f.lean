import Derived.Test.YtimebkgadobpoaaD26e
namespace Go.Rx
open Go.Proofs

def trueS0 : Spec where
  tr := fun args H K => match args, H with
    | [], [] => K (vb true) []
    | _, _ => False
def trueS1 : Spec where
  tr := fun args H K => match args, H with
    | [.row 0], [.row 3 l true] => K (vb true) [.row 3 l true]
    | _, _ => False
def trueS2 : Spec where
  tr := fun args H K => match args, H with
    | [.row 0, .row 1], [.row 3 l true, .row 0 o true] => K (vb true) [.row 3 l true, .row 0 o true]
    | _, _ => False
def trueS3 : Spec where
  tr := fun args H K => match args, H with
    | [a, b, c], [] => match evOf a, evOf b, evOf c with
      | some _, some _, some _ => K (vb true) []
      | _, _, _ => False
    | _, _ => False

def sigA (n : Nat) : FuncId → Option Spec := fun f => match f with
  | 15 => some (ev2S aheadM)
  | 16 => some (ev2S aheadM)
  | 25 => some (ev2S lessM)
  | 26 => some (ev2S lessM)
  | 18 => some sameS
  | 27 => some (sortS sortM)
  | 28 => some (sortS sortM)
  | 29 => some (checkS checkM)
  | 30 => some (checkS refCheckM)
  | 24 => bif Nat.beq n 24 then none else some trueS0
  | _ => none

noncomputable def cfg24 : Cfg := { cfgB with sigs := sigA 24 }
noncomputable def cfg7 : Cfg := { cfgB with
  sigs := sigA 7
  keep := fun r => match r with
    | 4 => some [(0, none), (3, none)]
    | _ => none
  keepB := fun b => match b with
    | 0 => some [(0, none)]
    | _ => none
  plan := fun r => match r with | 6 => some ([0, 1, 2, 3, 4, 5, 6, 7, 8, 10, 11, 12, 13, 14, 15, 16, 17, 18, 9, 19, 20, 21, 22, 23, 24, 25, 26, 27, 28, 29, 30, 32, 33, 34, 35, 36, 37, 38, 39, 40, 31, 41, 42, 43], 0) | _ => none }
noncomputable def cfg8 : Cfg := { cfgB with sigs := sigA 8 }
noncomputable def cfg9 : Cfg := { cfgB with
  sigs := sigA 9
  keep := fun r => match r with
    | 6 => some [(0, none), (3, none), (4, some 1), (5, none)]
    | 12 => some [(0, none), (3, none), (4, some 1), (5, none), (6, none)]
    | 18 => some [(0, none), (3, none), (4, some 1), (7, none), (8, none)]
    | _ => none
  keepB := fun b => match b with
    | 0 => some [(0, none), (3, none), (4, some 1)]
    | 2 => some [(0, none), (3, none), (4, some 1), (5, none)]
    | 4 => some [(0, none), (3, none), (7, none)]
    | _ => none
  plan := fun r => match r with | 14 => some (List.range 15, 0) | 20 => some (List.range 10, 0) | _ => none }
noncomputable def cfg10 : Cfg := { cfgB with
  sigs := sigA 10
  plan := fun r => match r with | 1 => some ([0, 1, 3, 4, 6, 7, 2, 5, 8, 9, 10, 11], 0) | _ => none }
end Go.Rx
