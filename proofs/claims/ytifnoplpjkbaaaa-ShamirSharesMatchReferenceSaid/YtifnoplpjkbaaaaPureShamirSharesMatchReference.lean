/-
The law ShamirSharesMatchReference on plain lists: its proof is the theorem of the text that is imported here.
-/
import Derived.Test.YtifnoplpjkbaaaaPure09
