/-
  WHAT THE ENGINE EX OWES, AS DATA; and what the functions of package nat say, in the engine's own words. No program.
-/
import Derived.Test.YgcsagGreatHX
namespace Go.Proofs.EX
open Go.RowKit Go.Proofs.YgcsagGreat
set_option linter.unusedVariables false

/-- A thing that the run has brought in: a block (or a count), or the value of a number. -/
inductive EV where
  | n (x : Nat)
  | v (a : Option Addr) (l c : Nat)
def EV.nat : EV → Nat
  | .n x => x
  | .v _ l _ => l
def EV.val : EV → Value
  | .n _ => .slice none 0 0
  | .v a l c => .slice a l c
inductive Tk where
  | b
  | v
  | lb (i : Nat)
  | lv (i : Nat)
  | lc (i m z : Nat)
  | lo (i : Nat)
noncomputable def envAt (env : List EV) (i : Nat) : EV := match nth env i with
  | some e => e
  | none => .n 0
/-- What is owed, token by token. -/
def build (obs : List Prop) (fin : List EV → Prop) : List Tk → List EV → Prop
  | [], env => fin env
  | .b :: T, env => ∀ b : Nat, build obs fin T (.n b :: env)
  | .v :: T, env => ∀ (a : Option Addr) (l c : Nat), build obs fin T (.v a l c :: env)
  | .lb i :: T, env => (envAt env i).nat = (envAt env i).nat ∧ build obs fin T env
  | .lv i :: T, env => (envAt env i).val = (envAt env i).val ∧ build obs fin T env
  | .lc i m z :: T, env => ((envAt env i).nat + m) * z = ((envAt env i).nat + m) * z ∧ build obs fin T env
  | .lo i :: T, env => (match nth obs i with
    | some p => p
    | none => False) ∧ build obs fin T env

def isV : EV → Bool
  | .n _ => false
  | .v _ _ _ => true
/-- The kinds of what has been brought in at the end; none: a leaf that no fact covers. -/
def laidOK (n : Nat) : List Tk → List Bool → Option (List Bool)
  | [], r => some r
  | .b :: T, r => laidOK n T (false :: r)
  | .v :: T, r => laidOK n T (true :: r)
  | .lb _ :: T, r => laidOK n T r
  | .lv _ :: T, r => laidOK n T r
  | .lc _ _ _ :: T, r => laidOK n T r
  | .lo i :: T, r => match Nat.blt i n with
    | true => laidOK n T r
    | false => none
theorem build_ok {obs : List Prop} {fin : List EV → Prop} (ho : ∀ p ∈ obs, p) : ∀ (T : List Tk) (env : List EV) {r : List Bool}, laidOK obs.length T (env.map isV) = some r → (∀ env', env'.map isV = r → fin env') → build obs fin T env
  | [], env, r, h, hf => hf env (by simpa [laidOK] using h)
  | .b :: T, env, r, h, hf => fun b => build_ok ho T (.n b :: env) h hf
  | .v :: T, env, r, h, hf => fun a l c => build_ok ho T (.v a l c :: env) h hf
  | .lb i :: T, env, r, h, hf => ⟨rfl, build_ok ho T env h hf⟩
  | .lv i :: T, env, r, h, hf => ⟨rfl, build_ok ho T env h hf⟩
  | .lc i m z :: T, env, r, h, hf => ⟨rfl, build_ok ho T env h hf⟩
  | .lo i :: T, env, r, h, hf => by
    unfold laidOK at h
    split at h
    · rename_i hi
      refine ⟨?_, build_ok ho T env h hf⟩
      have hi' : i < obs.length := by
        have := Nat.le_of_ble_eq_true hi
        omega
      rw [nth_eq, List.getElem?_eq_getElem hi']
      exact ho _ (List.getElem_mem hi')
    · cases h

/-- Digits of a great literal. -/
def dec (B : Nat) : Nat → Nat → List Nat
  | 0, _ => []
  | f + 1, n => n % B :: dec B f (n / B)
/-- Tokens told by numbers. -/
def tks : List Nat → List Tk
  | [] => []
  | x :: l => (match x % 8 with
    | 0 => .b
    | 1 => .v
    | 2 => .lb (x / 8)
    | 3 => .lv (x / 8)
    | 4 => .lc (x / 8 % 1024) (x / 8192 % 1024) (x / 8388608)
    | _ => .lo (x / 8)) :: tks l

/-! ### The functions of package nat -/
def big : Int := 2 ^ 1024
def cmpX (x y : Int) : Int := match ltB x y with
  | true => -1
  | false => match ltB y x with
    | true => 1
    | false => 0

/-- A number is looked up. -/
def getN (v : Value) (K : Int → Hs → Prop) (s : St) (H : Hs) : Prop := match H with
  | [] => False
  | h :: H' => match h with
    | 0 => match v with
      | .slice a l c => match a with
        | none => match l with
          | 0 => match c with
            | 0 => K 0 H'
            | _ => False
          | _ => False
        | some _ => False
      | _ => False
    | i + 1 => match nth s.N i with
      | some p => match v with
        | .slice _ _ _ => v = p.1 ∧ K p.2 H'
        | _ => False
      | none => False
/-- A number is made. -/
def newN (n : Int) (K : Value → St → Hs → Prop) (s : St) (H : Hs) : Prop := match H with
  | [] => False
  | h :: H' => match h with
    | 0 => match ltB n big with
      | true => ∀ (a : Option Addr) (l c : Nat), K (.slice a l c) { s with N := (.slice a l c, n) :: s.N } H'
      | false => False
    | _ => n < big ∧ ∀ (a : Option Addr) (l c : Nat), K (.slice a l c) { s with N := (.slice a l c, n) :: s.N } H'
def twoN (f : Int → Int → Int) : Spec := fun Z args Q s H => match args.toList with
  | [x, y] => getN x (fun m H => getN y (fun n H => newN (f m n) Q s H) s H) s H
  | _ => False
def cmpN : Spec := fun Z args Q s H => match args.toList with
  | [x, y] => getN x (fun m H => getN y (fun n H => match H with
    | [] => False
    | h :: H' => match h with
      | 0 => Q (.int .i8 (cmpX m n)) s H'
      | 1 => cmpX m n = -1 ∧ Q (.int .i8 (-1)) s H'
      | 2 => cmpX m n = 0 ∧ Q (.int .i8 0) s H'
      | _ => cmpX m n = 1 ∧ Q (.int .i8 1) s H') s H) s H
  | _ => False
def subN : Spec := fun Z args Q s H => match args.toList with
  | [x, y] => getN x (fun m H => getN y (fun n H => match H with
    | [] => False
    | h :: H' => match h with
      | 0 => match ltB m n with
        | true => Q (.tuple #[.slice none 0 0, .bool false]) s H'
        | false => newN (m - n) (fun v s H => Q (.tuple #[v, .bool true]) s H) s H'
      | 1 => n ≤ m ∧ newN (m - n) (fun v s H => Q (.tuple #[v, .bool true]) s H) s H'
      | _ => m < n ∧ Q (.tuple #[.slice none 0 0, .bool false]) s H') s H) s H
  | _ => False
def divN : Spec := fun Z args Q s H => match args.toList with
  | [x, y] => getN x (fun m H => getN y (fun n H => match ltB 0 n with
    | true => newN (m / n) (fun q s H => newN (m % n) (fun r s H => Q (.tuple #[q, r, .bool true]) s H) s H) s H
    | false => False) s H) s H
  | _ => False
def sameN : Spec := fun Z args Q s H => match args.toList with
  | [x] => getN x (fun m H => newN m Q s H) s H
  | _ => False
/-- A number in its bounds: at hint 0 the kernel sees it, else it is owed. -/
def inN (n m : Int) (K : Hs → Prop) (H : Hs) : Prop := match H with
  | [] => False
  | h :: H' => match h with
    | 0 => match ltB (-1) n with
      | true => match ltB n m with
        | true => K H'
        | false => False
      | false => False
    | _ => (0 ≤ n ∧ n < m) ∧ K H'
def fromU64N : Spec := fun Z args Q s H => match args.toList with
  | [.int .u64 i] => inN i 18446744073709551616 (fun H => newN i Q s H) H
  | _ => False
def u64N : Spec := fun Z args Q s H => match args.toList with
  | [x] => getN x (fun m H => match ltB m 18446744073709551616 with
    | true => Q (.tuple #[.int .u64 m, .bool true]) s H
    | false => False) s H
  | _ => False
/-- 'place': a number as an index. At hint 0 the kernel sees it; 1: it is owed that it is none; i + 2: that it is i. -/
def placeN : Spec := fun Z args Q s H => match args.toList with
  | [x, .int .i64 len] => getN x (fun m H => match ltB (-1) len with
    | true => match ltB len 9223372036854775808 with
      | true => match H with
        | [] => False
        | h :: H' => match h with
          | 0 => match ltB m len with
            | true => Q (.tuple #[.int .i64 m, .bool true]) s H'
            | false => Q (.tuple #[.int .i64 0, .bool false]) s H'
          | 1 => len ≤ m ∧ Q (.tuple #[.int .i64 0, .bool false]) s H'
          | i + 2 => match ltB (Int.ofNat i) len with
            | true => m = Int.ofNat i ∧ Q (.tuple #[.int .i64 (Int.ofNat i), .bool true]) s H'
            | false => False
      | false => False
    | false => False) s H
  | _ => False
def dig (n : Int) (i : Nat) : Int := n / 256 ^ i % 256
def beC (n : Int) : Nat → List Value
  | 0 => []
  | k + 1 => .int .u8 (dig n k) :: beC n k
def two256 : Int := 2 ^ 256
def be32N : Spec := fun Z args Q s H => match args.toList with
  | [x] => getN x (fun m H => inN m two256 (fun H => Q (.tuple #[.agg (beC m 32).toArray, .bool true]) s H) H) s H
  | _ => False
def addrN : Spec := fun Z args Q s H => match args.toList with
  | [x] => getN x (fun m H => Q (.agg (beC m 20).toArray) s H) s H
  | _ => False
/-- A row of bytes is read. -/
def readB (Z : List Blk) (v : Value) (K : List Value → Hs → Prop) (s : St) (H : Hs) : Prop := match v with
  | .slice a n _ => match n with
    | 0 => K [] H
    | _ => match a with
      | none => False
      | some a => match H with
        | [] => False
        | i :: H' => match nth (Z ++ s.M) i with
          | some blk => match cutL blk.cs a.off n with
            | some l => atB a blk.b (K l H')
            | none => False
          | none => match H' with
            | [] => False
            | j :: H2 => match winL s j with
              | some ql => match takeN n ql.2 with
                | some l => a = ql.1 ∧ K l H2
                | none => False
              | none => False
  | _ => False
def beV (l : List Int) : Int := l.foldl (fun a b => a * 256 + b) 0
def u8s : List Value → Option (List Int)
  | [] => some []
  | .int .u8 i :: l => match u8s l with
    | some r => some (i :: r)
    | none => none
  | _ :: _ => none
def inAll : List Int → Bool
  | [] => true
  | x :: l => match ltB (-1) x with
    | true => match ltB x 256 with
      | true => inAll l
      | false => false
    | false => false
def AllIn : List Int → Prop
  | [] => True
  | x :: l => (0 ≤ x ∧ x < 256) ∧ AllIn l
/-- The numbers of bytes: at hint 0 the kernel sees them, else it is owed that they are bytes. -/
def bytesN (l : List Value) (K : List Int → Hs → Prop) (H : Hs) : Prop := match u8s l with
  | none => False
  | some r => match H with
    | [] => False
    | h :: H' => match h with
      | 0 => match inAll r with
        | true => K r H'
        | false => False
      | _ => AllIn r ∧ K r H'
def fromBEN : Spec := fun Z args Q s H => match args.toList with
  | [x] => readB Z x (fun l H => bytesN l (fun r H => match Nat.ble r.length 4096 with
    | true => newN (beV r) Q s H
    | false => False) H) s H
  | _ => False
def beforeN : Spec := fun Z args Q s H => match args.toList with
  | [.agg x, .agg y] => match Nat.beq x.toList.length y.toList.length with
    | true => bytesN x.toList (fun xs H => bytesN y.toList (fun ys H => Q (.bool (ltB (beV xs) (beV ys))) s H) H) H
    | false => False
  | _ => False
def eqL : List Int → List Int → Bool
  | [], [] => true
  | x :: l, y :: r => match eqB x y with
    | true => eqL l r
    | false => false
  | _, _ => false
def equalN : Spec := fun Z args Q s H => match args.toList with
  | [x, y] => readB Z x (fun l H => readB Z y (fun r H => bytesN l (fun xs H => bytesN r (fun ys H => match H with
    | [] => False
    | h :: H' => match h with
      | 0 => Q (.bool (eqL xs ys)) s H'
      | _ => xs = ys ∧ Q (.bool true) s H') H) H) s H) s H
  | _ => False
end Go.Proofs.EX
