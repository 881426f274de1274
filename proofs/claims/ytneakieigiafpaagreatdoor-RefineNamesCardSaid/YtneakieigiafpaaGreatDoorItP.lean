/- The runner with refine's order and a table of covers. -/
import Derived.Test.YtneakieigiafpaaGreatDoorExT
import Derived.Test.YtneakieigiafpaaGreatDoorItO
import Derived.Test.YtneakieigiafpaaGreatDoorRefTB
