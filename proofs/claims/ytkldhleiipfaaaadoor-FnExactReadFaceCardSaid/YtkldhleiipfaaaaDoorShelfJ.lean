-- strings.Join lies in the shelf of this seat itself.
import Derived.Test.YtkldhleiipfaaaaDoorShelfL
